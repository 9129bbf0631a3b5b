/- A piece of a journal: its bytes, the sum ahead of the next. -/
import Derived.Test.YtcaicgipibcicaaGreatQRdP2
import Derived.Deep.AppendSrc
import Derived.Test.YtcaicgipibcicaaGreatQRfW
set_option maxRecDepth 100000
set_option maxHeartbeats 8000000
set_option linter.unusedSimpArgs false
set_option linter.unusedVariables false
open Go renaming cell_of_row→yI,heap_alloc_new→yE,lt_of_block→yK
open Go.Lib renaming hid→yA
open Go.World renaming rangeAt_setCells_same→yJ
open List renaming length_drop→zw,length_take→yY
open Nat renaming le_refl→yB
namespace Go.Proofs.YtcaicgipibcicaaGreat
open Go.RowKit Go.Sort
def u8s (l:List Int):List UInt8:=l.map fun x=>UInt8.ofNat x.toNat
def jn (l:List Int):Nat:=crc (u8s l)
theorem jd (l:List Int):jn l<4294967296:=vW _
def db (a l:List Int):List Int:=be4 l.length++be4 (4294967295 - l.length)++l++be4 (jn (a++l))
theorem je {w:World} {ao:Option Addr} {l:List Int} (h:RdC w ao (cellsOf ai l)) (hb:Byt l):Rd w ao (u8s l):=by
 rcases h with h0 | ⟨b,o,rfl,hc⟩
 · left
   have:=congrArg List.length h0;rw [aG] at this;have:l=[]:=List.eq_nil_of_length_eq_zero (by simpa using this);subst this;rfl
 · refine .inr ⟨b,o,rfl,fun i hi=>?_⟩
   have hi':i<l.length:=by simpa [u8s] using hi
   have hg:=cq ai 1 cE l i (l[i]) (List.getElem?_eq_getElem hi') 0 (by omega);rw [show i*1+0=i by omega] at hg;rw [hc i (.int .u8 (l[i])) (hg.trans rfl)];have h1:=hb (l[i]) (List.getElem_mem _);simp only [u8s,List.getElem_map]
   congr 2
   rw [UInt8.toNat_ofNat'];omega
theorem Src.ofRd {P:Program} {w:World} {tx e:TypeId} (hk:P.underlying tx=some (.slice e)) (ao:Option Addr) (m c:Nat) (l:List Int) (hl:l.length=m) (hr:RdC w ao (cellsOf ai l)):Src P 1 tx (.slice ao m c) m (cellsOf ai l) w:=by
 have hlen:(cellsOf ai l).length=m:=by rw [aG,hl]
 rcases hr with h0 | ⟨b,o,rfl,hc⟩
 · have hm:m=0:=by rw [←hlen,h0];rfl
   subst hm;rw [h0];cases ao with
   | none=>exact Src.ofNil (P:=P) w hk c
   | some a=>exact Src.ofSlice (P:=P) w hk a 0 c [] (by simp) (fun j u h=>by simp at h) (fun u h=>by cases h)
 · refine Src.ofSlice (P:=P) w hk _ _ c (cellsOf ai l) (by rw [hlen];omega) (fun j u hu=>?_) (dP ai fv l)
   have hadd:(⟨b,o,none⟩:Addr).add j=⟨b,o+j,none⟩:=by unfold Addr.add;split <;> simp_all
   rw [hadd];exact hc j u hu
theorem iF {w:World} {b:Nat} {vs:Array Value} {e:TypeId} {n:Nat} (h:w.heap[b]?=some (.cells vs e (0,0))) (hn:vs.size=n) (hm:n≤maxLen):Own w 1 (.slice (some ⟨b,0,none⟩) n n) n vs.toList:=by
 refine ⟨by simp [hn],.inr ⟨b,n,rfl,yB _,hm,⟨yK h,fun j u hu=>?_,fun j hj=>?_,fun j hj=>?_⟩⟩⟩
 · rw [yI w b _ _ _ (0,0) h]
   simpa using hu
 · rw [yI w b _ _ _ (0,0) h]
   have:j<vs.size:=by omega
   simp [this]
 · exact frozen_of_row w b _ _ _ h
theorem qP (n:Nat) (h:n<4294967296):bits .xor .u32 4294967295 (n:Int)=((4294967295 - n:Nat):Int):=by
 have:=jl 4294967295 n (by omega) h;rw [tJ n h] at this;exact this
structure PcAt (w:World) (A:Nat) (a0 a1 a2 a3:Int) (wi:World):Prop where
 a:wi.heap[A]?=some (.cells #[.int .u8 a0,.int .u8 a1,.int .u8 a2,.int .u8 a3] 139 (0,0))
 b:wi.heap[A+1]?=some (.cells #[.int .u8 0,.int .u8 0,.int .u8 0,.int .u8 0] 139 (0,0))
 below:Below w.heap.size w wi
theorem PcAt.keep {w:World} {A:Nat} {a0 a1 a2 a3:Int} {wi w':World} {X:Nat→Prop} (h:PcAt w A a0 a1 a2 a3 wi) (hk:Keep X wi w') (hx:∀ k,X k→A+1<k) (hA:w.heap.size≤A+2):PcAt w A a0 a1 a2 a3 w':=
 ⟨hk.old h.a (fun h=>by have:=hx _ h;omega),hk.old h.b (fun h=>by have:=hx _ h;omega),h.below.trans (hk.below h.below.size (fun i hi he=>by have:=hx _ he;omega))⟩
theorem PcAt.lt {w:World} {A:Nat} {a0 a1 a2 a3:Int} {wi:World} (h:PcAt w A a0 a1 a2 a3 wi):A+1<wi.heap.size:=yK h.b
structure ma (A S:Nat) (wi:World):Prop where
 a:wi.rangeAt A 0 [.int .u8 ((S:Int) / 16777216),.int .u8 ((S:Int) / 65536 % 256),.int .u8 ((S:Int) / 256 % 256),.int .u8 ((S:Int) % 256)]
 b:wi.heap[A+1]?=some (.cells #[.int .u8 0,.int .u8 0,.int .u8 0,.int .u8 0] 139 (0,0))
theorem ma.keep {A S:Nat} {wi w':World} {g:Nat} (h:ma A S wi) (hk:Keep (fun k=>k=g) wi w') (hg:A+1<g):ma A S w':=
 ⟨fun j u hu=>hk.cell (h.a j u hu) (by show ¬ A=g;omega),hk.old h.b (by omega)⟩
theorem ma.cells {A S:Nat} {wi:World} (h:ma A S wi):(wi.cell? ⟨A,0,none⟩=some (.int .u8 ((S:Int) / 16777216))∧wi.cell? ⟨A,1,none⟩=some (.int .u8 ((S:Int) / 65536 % 256))∧wi.cell? ⟨A,2,none⟩=some (.int .u8 ((S:Int) / 256 % 256))∧wi.cell? ⟨A,3,none⟩=some (.int .u8 ((S:Int) % 256)))∧
 (wi.cell? ⟨A+1,0,none⟩=some (.int .u8 0)∧wi.cell? ⟨A+1,1,none⟩=some (.int .u8 0)∧wi.cell? ⟨A+1,2,none⟩=some (.int .u8 0)∧wi.cell? ⟨A+1,3,none⟩=some (.int .u8 0))∧∀ j,wi.frozen? ⟨A+1,j,none⟩=false:=
 ⟨⟨h.a 0 _ rfl,h.a 1 _ rfl,h.a 2 _ rfl,h.a 3 _ rfl⟩,⟨by rw [yI _ _ _ _ _ (0,0) h.b];rfl,by rw [yI _ _ _ _ _ (0,0) h.b];rfl,by rw [yI _ _ _ _ _ (0,0) h.b];rfl,by rw [yI _ _ _ _ _ (0,0) h.b];rfl⟩,fun j=>frozen_of_row wi (A+1) j _ _ h.b⟩
theorem ma.rd {A S:Nat} {wi:World} (h:ma A S wi):RdC wi.drew (some ⟨A,0,none⟩) (cellsOf ai (be4 S)):=.inr ⟨A,0,rfl,fun j u hu=>h.a j u hu⟩
theorem ln {P:Program} {fn:Func} {tmps:Array Value} {w:World} (b a:Nat) (t:TypeId) (hr:fn.results=#[.tmp b,.cell a t]) (H:Nat) (ha:tmps.getD a undef = .pointer (some ⟨H,0,none⟩)) (v2:Value) (hb:tmps.getD b undef=v2) (cs:List Value) (V:Array Value) (hV:cs.toArray=V) (d:TypeDesc)
 (hc:w.rangeAt H 0 cs) (hu:P.underlying t=some d) (hd:(match d with | .struct _ | .array _ _=>true | _=>false)=true) (hi:(P.info? t).map (·.size)=some cs.length):(results fn tmps).run P w = .ok (.tuple #[v2,.agg V]) w:=by
 have h:=bk (P:=P) w H 0 t cs d hc hu hd hi;rw [hV] at h;unfold results;rw [hr];rw [Array.getD_eq_getD_getElem?] at ha hb;simp [ha,hb,asAddr,Sem.run_bind,h]
theorem iG:(Tryz.prog.info? 139).map (·.size)=some 4:=by kernel_rfl
def oA (w:World) (a l:List Int) (n:Nat) (e:Ending) (w':World):Prop:=
 ∃ b c,e = .returned (.tuple #[.slice (some ⟨b,0,none⟩) (8+n+4) c,.agg (cellsOf ai (be4 (jn (a++l)))).toArray])∧Below w.heap.size w w'∧w.heap.size≤b∧8+n+4≤c∧(∀ j u,(cellsOf ai (db a l))[j]?=some u→w'.cell? ⟨b,j,none⟩=some u)∧Own w' 1 (.slice (some ⟨b,0,none⟩) (8+n+4) c) (8+n+4) (cellsOf ai (db a l))
theorem uK (w:World) (a0 a1 a2 a3:Int) (ha:Byt [a0,a1,a2,a3]) (ao:Option Addr) (n cap:Nat) (l:List Int) (hn:l.length=n) (hr:RdC w ao (cellsOf ai l)) (hb:Byt l) (hm:n≤1000000000) :
 Calls Tryz.prog 78 #[.agg #[.int .u8 a0,.int .u8 a1,.int .u8 a2,.int .u8 a3],.slice ao n cap] w (oA w [a0,a1,a2,a3] l n):=by
 have HN:=yA hn;have HBY:=yA hb;have HAB:=yA ha;have hbA:=(Below.refl w.heap.size w).alloc (yB _) (.cells #[.int .u8 a0,.int .u8 a1,.int .u8 a2,.int .u8 a3] 139);have hA:=yE w (.cells #[.int .u8 a0,.int .u8 a1,.int .u8 a2,.int .u8 a3] 139);obtain ⟨A,hAe⟩:∃ A,w.heap.size=A:=⟨_,rfl⟩;have HAE:=yA hAe;have hB:=yE (w.alloc (.cells #[.int .u8 a0,.int .u8 a1,.int .u8 a2,.int .u8 a3] 139)) (.cells #[.int .u8 0,.int .u8 0,.int .u8 0,.int .u8 0] 139);have hs1:(w.alloc (.cells #[.int .u8 a0,.int .u8 a1,.int .u8 a2,.int .u8 a3] 139)).heap.size=A+1:=by simp [hAe]
 have hk1:=Keep.alloc (fun _=>False) (w.alloc (.cells #[.int .u8 a0,.int .u8 a1,.int .u8 a2,.int .u8 a3] 139)) (.cells #[.int .u8 0,.int .u8 0,.int .u8 0,.int .u8 0] 139);rw [hs1] at hB;rw [hAe] at hA;have HA0:=yA (hk1.old hA id);have HB0:=yA hB;have HBL:=yA (hbA.alloc hbA.size (.cells #[.int .u8 0,.int .u8 0,.int .u8 0,.int .u8 0] 139));have HR:=yA hr;clear hn hr hb ha hbA hA hB hk1;go_enter Tryz.func78,Tryz.ntmps78
 go_upto_region 1 with fail
 clear hAe hs1;generalize (w.alloc (.cells #[.int .u8 a0,.int .u8 a1,.int .u8 a2,.int .u8 a3] 139)).alloc (.cells #[.int .u8 0,.int .u8 0,.int .u8 0,.int .u8 0] 139)=W0 at *;go_wp2_with fail
 refine (jq W0).mono ?_;rintro e w1 ⟨rfl,hw1⟩;obtain ⟨WB,hWB⟩:∃ WB,W0.heap.size=WB:=⟨_,rfl⟩;have HW1:=yA (show W1 w1 WB (.slice none 0 0) [] from by rw [hw1,←hWB];exact ⟨yE W0 _,by simpa [cellsOf] using Own.nil _ 1,by simp [Value.ownBlock]⟩)
 have HP1:=yA (show PcAt w A a0 a1 a2 a3 w1 from by
  have hk:Keep (fun _=>False) W0 w1:=by rw [hw1];exact Keep.alloc _ _ _
  exact ⟨hk.old HA0.out id,hk.old HB0.out id,HBL.out.trans (hk.below HBL.out.size (fun _ _ h=>h))⟩)
 have HAW:=yA (show A+1<WB from by rw [←hWB];exact yK HB0.out);rw [hWB];clear hw1 hWB HA0 HB0 HBL;obtain ⟨q,hx,hn32,hqe⟩:∃ q:Nat,bits .xor .u32 IntKind.u32.max (n:Int)=(q:Int)∧q<4294967296∧q=4294967295 - n:=⟨_,qP n (by omega),by omega,rfl⟩;have HQE:=yA hqe;clear hqe;go_wp2_with fail
 refine (ns w1 WB (.slice none 0 0) [] HW1.out n (by omega) (by simp)).mono ?_;rintro e w2 ⟨rfl,sv2,h2,k2,n2⟩;have HW2:=yA h2;have HP2:=yA (HP1.out.keep k2 (fun k hk=>by have:=HAW.out;rcases hk with hk | hk;omega;cases hk) (by have:=HAE.out;omega));have HS2:=yA (show ∀ g,sv2.ownBlock=some g→A+1<g from fun g hg=>by have:=HP1.out.lt;rcases n2 g hg with h | h;cases h;omega);clear h2 k2 n2 HP1 HW1;go_wp2_with fail
 rw [show IntKind.u64.wrap (q:Int)=(q:Int) from wrap_u64 (by omega) (by omega)];refine (ns w2 WB sv2 ([]++be4 n) HW2.out q hn32 (by simp [be4])).mono ?_;rintro e w3 ⟨rfl,sv3,h3,k3,n3⟩;have HW3:=yA h3;have HP3:=yA (HP2.out.keep k3 (fun k hk=>by have:=HAW.out;rcases hk with hk | hk;omega;exact HS2.out k hk) (by have:=HAE.out;omega));clear h3 k3 n3 HP2 HW2 HS2;go_wp2_with fail
 refine (mO w3 WB sv3 ([]++be4 n++be4 q) 8 HW3.out rfl (by omega) (by omega)).mono ?_;rintro e w4 ⟨rfl,hb4,hrow4⟩;have HP4:=yA (HP3.out.keep (Keep.of_below hb4 (yB _) (fun _=>False)) (fun _ h=>h.elim) (by have:=HAE.out;omega));have HG4:=yA (show A+1<w3.heap.size from HP3.out.lt)
 have HO4:=yA (show Own w4 1 (.slice (some ⟨w3.heap.size,0,none⟩) 8 8) 8 (cellsOf ai (be4 n++be4 q)) from by
  have:=iF hrow4 (n:=8) rfl (by unfold maxLen;omega);exact this)
 have HR4:=yA (HR.out.below HP4.out.below);clear hb4 hrow4 HP3 HW3;obtain ⟨g4,hg4⟩:∃ g4,w3.heap.size=g4:=⟨_,rfl⟩;rw [hg4];rw [hg4] at HO4 HG4;clear hg4;obtain ⟨i5,hi,hz0,hz1,hz2⟩:=cR (show (Tryz.prog.info? 5).map (fun i=>(i.zero,i.size,i.bytes))=some (some (.int .u8 0),1,1) by kernel_rfl);go_wp2_with (at_builtin;refine br rfl (.tmp 24) (.tmp 25) 59 59 rfl 5 i5 (.int .u8 0) 1 1 Tryz.underlying59 hi hz0 hz1 hz2 rfl (.slice (some ⟨g4,0,none⟩) 8 8) 8 _ rfl HO4.out (.slice ao n cap) n (cellsOf ai l) rfl (Src.ofRd Tryz.underlying59 ao n cap l HN.out HR4.out) (by omega) (by unfold maxLen;omega) (by omega) ?_)
 intro g5 cap5 w5 ho5 hc5;have HK5:=yA (show Keep (fun k=>k=g4) w4 w5 from by rcases hc5 with ⟨_,h⟩ | ⟨_,h⟩;exact h.mono (fun k _ hk=>by cases hk;rfl);exact h.mono (fun _ _ h=>h.elim));have HG5:=yA (show A+1<g5 from by have:=HG4.out;have:=HP4.out.lt;rcases hc5 with ⟨h,_⟩ | ⟨h,_⟩;cases h;omega;omega);have HO5:=yA ho5;have HP5:=yA (HP4.out.keep HK5.out (fun k hk=>by have:=HG4.out;omega) (by have:=HAE.out;omega));clear ho5 hc5 HK5 HO4 HP4 HR4 HG4;have HR5:=yA (HR.out.below HP5.out.below);have HO5A:=yA (show Own w5 1 (.slice (some ⟨A,0,none⟩) 4 4) 4 (cellsOf ai [a0,a1,a2,a3]) from iF HP5.out.a (n:=4) rfl (by unfold maxLen;omega));go_wp2_with (at_builtin;refine br rfl (.tmp 27) (.tmp 28) 59 59 rfl 5 i5 (.int .u8 0) 1 1 Tryz.underlying59 hi hz0 hz1 hz2 rfl (.slice (some ⟨A,0,none⟩) 4 4) 4 _ rfl HO5A.out (.slice ao n cap) n (cellsOf ai l) rfl (Src.ofRd Tryz.underlying59 ao n cap l HN.out HR5.out) (by omega) (by unfold maxLen;omega) (by omega) ?_)
 intro g6 cap6 w6 ho6 hc6
 have HT6:=yA (show w6.there A 0 4 from by
  rcases hc6 with ⟨h,_⟩ | ⟨_,h⟩
  · cases h
    obtain ⟨_,h1 | ⟨g,cap,h1,h2,h3,h4⟩⟩:=ho6
    · cases h1.1
    · cases h1
      intro j hj;rw [Nat.zero_add];exact ⟨h4.there j (by omega),h4.free j (by omega)⟩
  · exact aw (h.old HP5.out.a id) (yB 4))
 have HK6:=yA (show Keep (fun k=>k=A) w5 w6 from by rcases hc6 with ⟨_,h⟩ | ⟨_,h⟩;exact h.mono (fun k _ hk=>by cases hk;rfl);exact h.mono (fun _ _ h=>h.elim))
 have HRD6:=yA (show RdC w6 (some ⟨g6,0,none⟩) (cellsOf ai ([a0,a1,a2,a3]++l)) from by
  obtain ⟨_,h1 | ⟨g,cap,h1,h2,h3,h4⟩⟩:=ho6
  · cases h1.1
  · cases h1
    refine .inr ⟨_,0,rfl,fun j u hu=>?_⟩;rw [Nat.zero_add];refine h4.cell j u ?_;rw [←hu];simp [cellsOf])
 have HB6:=yA (HK6.out.old HP5.out.b (by omega));have HL6:=yA (HP5.out.below.trans (HK6.out.below HP5.out.below.size (fun i hi he=>by have:=HAE.out;omega)));have HO6:=yA (HO5.out.keep HK6.out (fun g hg he=>by have h5:=HG5.out;have hgg:g5=g:=(by cases hg;rfl);have he':g=A:=he;omega));clear ho6 hc6 HK6 HO5 HO5A HR5 HP5;have HBA:=yA (show Byt ([a0,a1,a2,a3]++l) from fun x hx=>by rcases List.mem_append.1 hx with h | h;exact HAB.out x h;exact HBY.out x h);go_wp2_with fail
 refine (sum_at (some ⟨g6,0,none⟩) (4+n) cap6 (u8s ([a0,a1,a2,a3]++l)) w6 (by simp only [u8s,List.length_map,List.length_append,HN.out,List.length_cons,List.length_nil]) (je HRD6.out HBA.out) (by omega)).mono ?_;rintro e w7 ⟨rfl,hb7⟩;have hk7:=Keep.of_below hb7 (yB _) (fun _=>False);have HT7:=yA (show w7.there A 0 (#[Value.int .u8 0,.int .u8 0,.int .u8 0,.int .u8 0]:Array Value).size from aq HT6.out hk7 id);have HB7:=yA (hk7.old HB6.out id);have HL7:=yA (HL6.out.trans (hk7.below HL6.out.size (fun _ _ h=>h)));have HO7:=yA (HO6.out.keep hk7 (fun _ _=>id));obtain ⟨S,hS,hS32⟩:∃ S,crc (u8s ([a0,a1,a2,a3]++l))=S∧S<4294967296:=⟨_,rfl,vW _⟩;have HSE:=yA (show jn ([a0,a1,a2,a3]++l)=S from hS);rw [hS];clear hS hb7 hk7 HT6 HB6 HL6 HO6 HRD6 HBA;have HT8:=yA (show w7.there A 0 (#[.int .u8 ((S:Int) / 16777216),.int .u8 ((S:Int) / 65536 % 256),.int .u8 ((S:Int) / 256 % 256),.int .u8 ((S:Int) % 256)]:Array Value).size from HT7.out);have szA:(Tryz.prog.info? 139).map (·.size)=some (#[.int .u8 ((S:Int) / 16777216),.int .u8 ((S:Int) / 65536 % 256),.int .u8 ((S:Int) / 256 % 256),.int .u8 ((S:Int) % 256)]:Array Value).size:=iG
 have HO8:=yA (show (#[.int .u8 ((S:Int) / 16777216),.int .u8 ((S:Int) / 65536 % 256),.int .u8 ((S:Int) / 256 % 256),.int .u8 ((S:Int) % 256)]:Array Value).all (·.oneCell')=true from all_oneCell_toArray (cs:=[.int .u8 ((S:Int) / 16777216),.int .u8 ((S:Int) / 65536 % 256),.int .u8 ((S:Int) / 256 % 256),.int .u8 ((S:Int) % 256)]) (dP ai fv (be4 S)))
 go_upto_region 8 with (first | ((with_reducible refine wpList_store_mid (op:=⟨none,.store 139 (.tmp 2) (.tmp 42),_,_,_,_⟩) ?_ 139 (.tmp 2) (.tmp 42) ?_ A 0 #[.int .u8 ((S:Int) / 16777216),.int .u8 ((S:Int) / 65536 % 256),.int .u8 ((S:Int) / 256 % 256),.int .u8 ((S:Int) % 256)] ?_ ?_ HT8.out szA HO8.out ?_);rfl;rfl;rfl;rfl))
 have hk8:=Keep.setCells w7 A 0 [.int .u8 ((S:Int) / 16777216),.int .u8 ((S:Int) / 65536 % 256),.int .u8 ((S:Int) / 256 % 256),.int .u8 ((S:Int) % 256)];have HX8:=yA (show ma A S (w7.setCells A 0 [.int .u8 ((S:Int) / 16777216),.int .u8 ((S:Int) / 65536 % 256),.int .u8 ((S:Int) / 256 % 256),.int .u8 ((S:Int) % 256)]) from ⟨yJ w7 A 0 [.int .u8 ((S:Int) / 16777216),.int .u8 ((S:Int) / 65536 % 256),.int .u8 ((S:Int) / 256 % 256),.int .u8 ((S:Int) % 256)] HT8.out,hk8.old HB7.out (by show ¬ A+1=A;omega)⟩);have HL8:=yA (HL7.out.trans (hk8.below HL7.out.size (fun i hi he=>by have:=HAE.out;omega)));have HO8':=yA (HO7.out.keep hk8 (fun g hg he=>by have h5:=HG5.out;have hgg:g5=g:=(by cases hg;rfl);have he':g=A:=he;omega));clear hk8 HO7 HL7 HB7 HT7 HT8 HO8 szA;generalize w7.setCells A 0 [.int .u8 ((S:Int) / 16777216),.int .u8 ((S:Int) / 65536 % 256),.int .u8 ((S:Int) / 256 % 256),.int .u8 ((S:Int) % 256)]=w8 at *;simp only [Act.put];obtain ⟨⟨x0,x1,x2,x3⟩,⟨y0,y1,y2,y3⟩,yf⟩:=HX8.out.cells;go_region_law (refine aM rfl (.tmp 43) (.tmp 44) 59 59 rfl 5 i5 (.int .u8 0) 1 1 Tryz.underlying59 hi hz0 hz1 hz2 rfl (.slice (some ⟨g5,0,none⟩) (8+n) cap5) (8+n) _ (by first | rfl | simp [Act.eval]) (HO8'.out.keep (Keep.drew (fun _=>False) w8) (fun _ _=>id)) (.slice (some ⟨A,0,none⟩) 4 4) 4 (cellsOf ai (be4 S)) (by first | rfl | simp [Act.eval]) (Src.ofRd Tryz.underlying59 (some ⟨A,0,none⟩) 4 4 (be4 S) rfl HX8.out.rd) (by unfold maxLen;omega) (by omega) ?_;intro ao2 q2 w9 ho9 hk9 hb9;have HX9:=yA (HX8.out.keep ((Keep.drew (fun _=>False) w8).trans hk9 (Z:=fun k=>k=g5) (fun _ _ h=>h.elim) (fun k _ hk=>by cases hk;rfl)) HG5.out);have HO9:=yA ho9;have HK9:=yA hk9;have HB9:=yA hb9;clear ho9 hk9 hb9;obtain ⟨⟨x0,x1,x2,x3⟩,⟨y0,y1,y2,y3⟩,yf⟩:=HX9.out.cells)
 all_goals
  obtain ⟨g9,rfl,HG9⟩:∃ g9,ao2=some ⟨g9,0,none⟩∧A+1<g9:=by
   obtain ⟨_,h1 | ⟨g,cap,h1,_⟩⟩:=HO9.out
   · cases h1.1
   · cases h1
     refine ⟨g,rfl,?_⟩;have h5:=HG5.out;have h8:=yK HX8.out.b;rcases HB9.out with h | ⟨g',h,h2⟩
     · have e:g=g5:=by simpa [Value.ownBlock] using h
       omega
     · have e:g=g':=by simpa [Value.ownBlock] using h
       have:w8.drew.heap.size=w8.heap.size:=rfl;omega
  have HG9':=yA HG9;clear HG9;have HTH:=yA (show w9.there (A+1) 0 4 from aw HX9.out.b (yB 4));have HKE:=yA (Keep.setCells w9 (A+1) 0 [.int .u8 ((S:Int) / 16777216),.int .u8 ((S:Int) / 65536 % 256),.int .u8 ((S:Int) / 256 % 256),.int .u8 ((S:Int) % 256)]);have HRE:=yA (yJ w9 (A+1) 0 [.int .u8 ((S:Int) / 16777216),.int .u8 ((S:Int) / 65536 % 256),.int .u8 ((S:Int) / 256 % 256),.int .u8 ((S:Int) % 256)] HTH.out)
  have HPE:=yA (show oA w [a0,a1,a2,a3] l n (.returned (.tuple #[.slice (some ⟨g9,0,none⟩) (8+n+4) q2,.agg #[.int .u8 ((S:Int) / 16777216),.int .u8 ((S:Int) / 65536 % 256),.int .u8 ((S:Int) / 256 % 256),.int .u8 ((S:Int) % 256)]])) (w9.setCells (A+1) 0 [.int .u8 ((S:Int) / 16777216),.int .u8 ((S:Int) / 65536 % 256),.int .u8 ((S:Int) / 256 % 256),.int .u8 ((S:Int) % 256)]) from by
   have hA:=HAE.out;refine ⟨g9,q2,by rw [HSE.out];rfl,?_,by have:=HG9'.out;omega,?_,fun j u hu=>?_,?_⟩
   · have hs:=HL8.out.size
     have h9:=(((Keep.drew (fun _=>False) w8).trans HK9.out (Z:=fun k=>k=g5) (fun _ _ h=>h.elim) (fun k _ hk=>by cases hk;rfl)).trans HKE.out (Z:=fun k=>A<k) (fun k _ hk=>by have:=HG5.out;omega) (fun k _ hk=>by omega));exact HL8.out.trans (h9.below hs (fun i hi he=>by omega))
   · obtain ⟨_,h1 | ⟨g,cap,h1,h2,_⟩⟩:=HO9.out
     · cases h1.1
     · cases h1;exact h2
   · refine HKE.out.cell (p:=⟨g9,j,none⟩) ?_ (by have:=HG9'.out;show ¬ g9=A+1;omega)
     obtain ⟨_,h1 | ⟨g,cap,h1,h2,h3,h4⟩⟩:=HO9.out
     · cases h1.1
     · cases h1
       refine h4.cell j u ?_;rw [←hu];unfold db;rw [HSE.out,HN.out,←HQE.out];simp [cellsOf]
   · have ho:=HO9.out.keep HKE.out (fun g hg he=>by have e:g9=g:=(by cases hg;rfl);have h2:=HG9'.out;have h3:g=A+1:=he;omega)
     have e:cellsOf ai (db [a0,a1,a2,a3] l)=cellsOf ai (be4 n++be4 q)++cellsOf ai l++cellsOf ai (be4 S):=by
      unfold db;rw [HSE.out,HN.out,←HQE.out];simp [cellsOf]
     rw [e];exact ho)
  clear x0 x1 x2 x3 y0 y1 y2 y3;go_wp2_with fail
  exact bodyPost_ret (v:=.tuple #[.slice (some ⟨g9,0,none⟩) (8+n+4) q2,.agg #[.int .u8 ((S:Int) / 16777216),.int .u8 ((S:Int) / 65536 % 256),.int .u8 ((S:Int) / 256 % 256),.int .u8 ((S:Int) % 256)]]) (ln 4 5 139 Tryz.results78 (A+1) rfl _ rfl [.int .u8 ((S:Int) / 16777216),.int .u8 ((S:Int) / 65536 % 256),.int .u8 ((S:Int) / 256 % 256),.int .u8 ((S:Int) % 256)] _ rfl _ HRE.out Tryz.underlying139 rfl iG) rfl HPE.out
theorem iH (w:World) (b o c:Nat) (d:List Int) (hd:d.length=4) (hb:Byt d) (hr:∀ j u,(cellsOf ai d)[j]?=some u→w.cell? ⟨b,o+j,none⟩=some u) (h4:4≤c) :
 Calls Tryz.prog 145 #[.slice (some ⟨b,o,none⟩) 4 c] w fun e w'=>e = .returned (.int .u32 (beI d))∧(0≤beI d∧beI d<4294967296)∧w'=w:=by
 obtain ⟨x0,x1,x2,x3,rfl⟩:=gm hd;have h0:=hb x0 (by simp);have h1:=hb x1 (by simp);have h2:=hb x2 (by simp);have h3:=hb x3 (by simp);have c0:w.cell? ⟨b,o,none⟩=some (.int .u8 x0):=hr 0 _ rfl;have c1:w.cell? ⟨b,o+1,none⟩=some (.int .u8 x1):=hr 1 _ rfl;have c2:w.cell? ⟨b,o+2,none⟩=some (.int .u8 x2):=hr 2 _ rfl;have c3:w.cell? ⟨b,o+3,none⟩=some (.int .u8 x3):=hr 3 _ rfl;clear hd hb hr;go_enter Tryz.func145,Tryz.ntmps145
 go_wp2_with fail
 go_loopw [3,4] (fun u i wr=>Hid (∃ (a:Int) (j:Nat),j≤4∧u = .int .u32 a∧i = .int .i64 j∧(0≤a∧a<256 ^ j)∧a=beI ([x0,x1,x2,x3].take j)∧wr=w)) (fun _ i _=>4 - (intOf i).toNat)
 case atStart=>exact yA ⟨0,0,by omega,rfl,rfl,⟨by omega,by omega⟩,rfl,rfl⟩
 case round=>
  obtain ⟨a,j,hj,rfl,rfl,ha,hab,rfl⟩:=hrel.out;clear hrel;have HA:=yA hab;clear hab;obtain rfl | rfl | rfl | rfl | rfl:j=0∨j=1∨j=2∨j=3∨j=4:=by omega
  · have HA2:=yA (show a*256+x0=beI [x0] from by rw [HA.out];rfl)
    clear HA;go_wp2_with fail
    go_roundw
    case rel=>exact yA ⟨a*256+x0,1,by omega,by first | rfl | (congr 1;done) | skip,by go_num,⟨by omega,by omega⟩,HA2.out,by first | rfl | trivial⟩
    case measure=>simp [intOf]
  · have HA2:=yA (show a*256+x1=beI [x0,x1] from by rw [HA.out];rfl)
    clear HA;go_wp2_with fail
    go_roundw
    case rel=>exact yA ⟨a*256+x1,2,by omega,by first | rfl | (congr 1;done) | skip,by go_num,⟨by omega,by omega⟩,HA2.out,by first | rfl | trivial⟩
    case measure=>simp [intOf]
  · have HA2:=yA (show a*256+x2=beI [x0,x1,x2] from by rw [HA.out];rfl)
    clear HA;go_wp2_with fail
    go_roundw
    case rel=>exact yA ⟨a*256+x2,3,by omega,by first | rfl | (congr 1;done) | skip,by go_num,⟨by omega,by omega⟩,HA2.out,by first | rfl | trivial⟩
    case measure=>simp [intOf]
  · have HA2:=yA (show a*256+x3=beI [x0,x1,x2,x3] from by rw [HA.out];rfl)
    clear HA;go_wp2_with fail
    go_roundw
    case rel=>exact yA ⟨a*256+x3,4,by omega,by first | rfl | (congr 1;done) | skip,by go_num,⟨by omega,by omega⟩,HA2.out,by first | rfl | trivial⟩
    case measure=>simp [intOf]
  · have HX:=yA (show a=beI [x0,x1,x2,x3] from HA.out)
    have HAB:=yA (show 0≤a∧a<4294967296 from ⟨ha.1,by have:=ha.2;omega⟩);clear HA ha;go_wp2_with fail
    go_ret
    exact ⟨by rw [←HX.out];rfl,by rw [←HX.out];exact HAB.out,rfl⟩
theorem uL (w:World) (v:Nat) (hv:v<4294967296) :
 Calls Tryz.prog 147 #[.int .u32 v] w fun e w'=>e = .returned (.slice (some ⟨w.heap.size,0,none⟩) 4 4)∧w'=w.alloc (.cells (cellsOf ai (be4 v)).toArray 5):=by
 go_enter Tryz.func147,Tryz.ntmps147
 go_wp2_with fail
 go_ret
 exact ⟨rfl,rfl⟩
end Go.Proofs.YtcaicgipibcicaaGreat
namespace Go.Proofs.YtcaicgipibcicaaGreat
open Go.RowKit
theorem xX {v:Nat} (hv:v<4294967296):beI (be4 v)=(v:Int):=by
 simp only [beI,be4,List.foldl_cons,List.foldl_nil];omega
theorem xY {d:List Int} (hd:d.length=4) (hb:Byt d):be4 (beI d).toNat=d:=by
 obtain ⟨x0,x1,x2,x3,rfl⟩:=gm hd;have h0:=hb x0 (by simp);have h1:=hb x1 (by simp);have h2:=hb x2 (by simp);have h3:=hb x3 (by simp);simp only [beI,be4,List.foldl_cons,List.foldl_nil];have e:((((((0*256+x0)*256+x1)*256+x2)*256+x3).toNat:Nat):Int)=(((0*256+x0)*256+x1)*256+x2)*256+x3:=by omega
 rw [e];simp only [List.cons.injEq,and_true];omega
theorem lp {d:List Int} (hd:d.length=4) (hb:Byt d):0≤beI d∧beI d<4294967296:=by
 obtain ⟨x0,x1,x2,x3,rfl⟩:=gm hd;have h0:=hb x0 (by simp);have h1:=hb x1 (by simp);have h2:=hb x2 (by simp);have h3:=hb x3 (by simp);simp only [beI,List.foldl_cons,List.foldl_nil];omega
theorem eI (v:Nat):(be4 v).length=4:=rfl
theorem pA {v:Nat} {d:List Int} (hv:v<4294967296) (hd:d.length=4) (hb:Byt d):be4 v=d↔beI d=(v:Int):=by
 constructor
 · rintro rfl
   exact xX hv
 · intro h
   have:=xY hd hb;rw [h] at this
   simpa using this
def bJ (a l:List Int):Option (List Int × Nat):=
 if l.length<8 then none
 else if beI ((l.drop 4).take 4)≠4294967295 - beI (l.take 4)∨l.length<(beI (l.take 4)).toNat+12 then none
 else if beI ((l.drop (8+(beI (l.take 4)).toNat)).take 4)=(jn (a++(l.drop 8).take (beI (l.take 4)).toNat):Int) then some ((l.drop 8).take (beI (l.take 4)).toNat,jn (a++(l.drop 8).take (beI (l.take 4)).toNat))
 else none
theorem qQ {a l:List Int} {n:Nat} (hb:Byt l) (hn:beI (l.take 4)=(n:Int)) (hm:beI ((l.drop 4).take 4)=4294967295 - (n:Int)) (hlen:n+12≤l.length) :
 db a ((l.drop 8).take n)=l.take (n+12)↔beI ((l.drop (8+n)).take 4)=(jn (a++(l.drop 8).take n):Int):=by
 have l1:(l.take 4).length=4:=by rw [yY];omega
 have l2:((l.drop 4).take 4).length=4:=by rw [yY,zw];omega
 have l3:((l.drop (8+n)).take 4).length=4:=by rw [yY,zw];omega
 have l4:((l.drop 8).take n).length=n:=by rw [yY,zw];omega
 have hr:=lp l1 (hb.take 4);have hr2:=lp l2 ((hb.drop 4).take 4);have e1:be4 n=l.take 4:=(pA (by omega) l1 (hb.take 4)).2 hn;have e2:be4 (4294967295 - n)=(l.drop 4).take 4:=(pA (by omega) l2 ((hb.drop 4).take 4)).2 (by omega)
 have split:l.take (n+12)=l.take 4++(l.drop 4).take 4++(l.drop 8).take n++(l.drop (8+n)).take 4:=by
  rw [show n+12=4+(4+(n+4)) by omega,List.take_add,List.take_add,List.take_add,List.drop_drop,List.drop_drop];simp only [List.append_assoc]
 unfold db;rw [l4,split,e1,e2];rw [List.append_cancel_left_eq];exact pA (jd _) l3 ((hb.drop (8+n)).take 4)
end Go.Proofs.YtcaicgipibcicaaGreat
