/- A piece of a journal: its bytes, the sum ahead of the next. -/
import Derived.Test.YtcaicgipibcicaaGreatQRdP2
import Derived.Deep.AppendSrc
import Derived.Test.YtcaicgipibcicaaGreatQSumA
import Derived.Test.YtcaicgipibcicaaGreatQRdM
import Derived.Test.YtcaicgipibcicaaGreatQRdX
import Derived.Test.YtcaicgipibcicaaGreatQRdY
import Derived.BigRegion
set_option maxRecDepth 100000
set_option maxHeartbeats 8000000
set_option linter.unusedSimpArgs false
set_option linter.unusedVariables false
open Go renaming cell_of_row→wG,heap_alloc_new→wF,lt_of_block→wJ
open Go.Lib renaming hid→wB
open Go.World renaming rangeAt_setCells_same→wT
open List renaming length_drop→xt,length_take→wV
open Nat renaming le_refl→wC
namespace Go.Proofs.YtcaicgipibcicaaGreat
open Go.RowKit Go.Sort
def u8s (l:List Int):List UInt8:=l.map fun x=>UInt8.ofNat x.toNat
def dA (l:List Int):Nat:=crc (u8s l)
theorem fd (l:List Int):dA l<4294967296:=ut _
def aC (a l:List Int):List Int:=be4 l.length++be4 (4294967295 - l.length)++l++be4 (dA (a++l))
theorem jH {w:World} {ao:Option Addr} {l:List Int} (h:RdC w ao (cellsOf ah l)) (hb:Byt l):Rd w ao (u8s l):=by
 rcases h with h0 | ⟨b,o,rfl,hc⟩
 · left
   have:=congrArg List.length h0;rw [aI] at this;have:l=[]:=List.eq_nil_of_length_eq_zero (by simpa using this);subst this;rfl
 · refine .inr ⟨b,o,rfl,fun i hi=>?_⟩
   have hi':i<l.length:=by simpa [u8s] using hi
   have hg:=ei ah 1 dC l i (l[i]) (List.getElem?_eq_getElem hi') 0 (by omega);rw [show i*1+0=i by omega] at hg;rw [hc i (.int .u8 (l[i])) (hg.trans rfl)];have h1:=hb (l[i]) (List.getElem_mem _);simp only [u8s,List.getElem_map]
   congr 2
   rw [UInt8.toNat_ofNat'];omega
theorem Src.ofRd {P:Program} {w:World} {tx e:TypeId} (hk:P.underlying tx=some (.slice e)) (ao:Option Addr) (m c:Nat) (l:List Int) (hl:l.length=m) (hr:RdC w ao (cellsOf ah l)):Src P 1 tx (.slice ao m c) m (cellsOf ah l) w:=by
 have hlen:(cellsOf ah l).length=m:=by rw [aI,hl]
 rcases hr with h0 | ⟨b,o,rfl,hc⟩
 · have hm:m=0:=by rw [←hlen,h0];rfl
   subst hm;rw [h0];cases ao with
   | none=>exact Src.ofNil (P:=P) w hk c
   | some a=>exact Src.ofSlice (P:=P) w hk a 0 c [] (by simp) (fun j u h=>by simp at h) (fun u h=>by cases h)
 · refine Src.ofSlice (P:=P) w hk _ _ c (cellsOf ah l) (by rw [hlen];omega) (fun j u hu=>?_) (di ah eE l)
   have hadd:(⟨b,o,none⟩:Addr).add j=⟨b,o+j,none⟩:=by unfold Addr.add;split <;> simp_all
   rw [hadd];exact hc j u hu
theorem kw {w:World} {b:Nat} {vs:Array Value} {e:TypeId} {n:Nat} (h:w.heap[b]?=some (.cells vs e (0,0))) (hn:vs.size=n) (hm:n≤maxLen):Own w 1 (.slice (some ⟨b,0,none⟩) n n) n vs.toList:=by
 refine ⟨by simp [hn],.inr ⟨b,n,rfl,wC _,hm,⟨wJ h,fun j u hu=>?_,fun j hj=>?_,fun j hj=>?_⟩⟩⟩
 · rw [wG w b _ _ _ (0,0) h]
   simpa using hu
 · rw [wG w b _ _ _ (0,0) h]
   have:j<vs.size:=by omega
   simp [this]
 · exact frozen_of_row w b _ _ _ h
theorem ph (n:Nat) (h:n<4294967296):bits .xor .u32 4294967295 (n:Int)=((4294967295 - n:Nat):Int):=by
 have:=kT 4294967295 n (by omega) h;rw [rM n h] at this;exact this
structure PcAt (w:World) (A:Nat) (a0 a1 a2 a3:Int) (wi:World):Prop where
 a:wi.heap[A]?=some (.cells #[.int .u8 a0,.int .u8 a1,.int .u8 a2,.int .u8 a3] 139 (0,0))
 b:wi.heap[A+1]?=some (.cells #[.int .u8 0,.int .u8 0,.int .u8 0,.int .u8 0] 139 (0,0))
 below:Below w.heap.size w wi
theorem PcAt.keep {w:World} {A:Nat} {a0 a1 a2 a3:Int} {wi w':World} {X:Nat→Prop} (h:PcAt w A a0 a1 a2 a3 wi) (hk:Keep X wi w') (hx:∀ k,X k→A+1<k) (hA:w.heap.size≤A+2):PcAt w A a0 a1 a2 a3 w':=
 ⟨hk.old h.a (fun h=>by have:=hx _ h;omega),hk.old h.b (fun h=>by have:=hx _ h;omega),h.below.trans (hk.below h.below.size (fun i hi he=>by have:=hx _ he;omega))⟩
theorem PcAt.lt {w:World} {A:Nat} {a0 a1 a2 a3:Int} {wi:World} (h:PcAt w A a0 a1 a2 a3 wi):A+1<wi.heap.size:=wJ h.b
structure kx (A S:Nat) (wi:World):Prop where
 a:wi.rangeAt A 0 [.int .u8 ((S:Int) / 16777216),.int .u8 ((S:Int) / 65536 % 256),.int .u8 ((S:Int) / 256 % 256),.int .u8 ((S:Int) % 256)]
 b:wi.heap[A+1]?=some (.cells #[.int .u8 0,.int .u8 0,.int .u8 0,.int .u8 0] 139 (0,0))
theorem kx.keep {A S:Nat} {wi w':World} {g:Nat} (h:kx A S wi) (hk:Keep (fun k=>k=g) wi w') (hg:A+1<g):kx A S w':=
 ⟨fun j u hu=>hk.cell (h.a j u hu) (by show ¬ A=g;omega),hk.old h.b (by omega)⟩
theorem kx.cells {A S:Nat} {wi:World} (h:kx A S wi):(wi.cell? ⟨A,0,none⟩=some (.int .u8 ((S:Int) / 16777216))∧wi.cell? ⟨A,1,none⟩=some (.int .u8 ((S:Int) / 65536 % 256))∧wi.cell? ⟨A,2,none⟩=some (.int .u8 ((S:Int) / 256 % 256))∧wi.cell? ⟨A,3,none⟩=some (.int .u8 ((S:Int) % 256)))∧
 (wi.cell? ⟨A+1,0,none⟩=some (.int .u8 0)∧wi.cell? ⟨A+1,1,none⟩=some (.int .u8 0)∧wi.cell? ⟨A+1,2,none⟩=some (.int .u8 0)∧wi.cell? ⟨A+1,3,none⟩=some (.int .u8 0))∧∀ j,wi.frozen? ⟨A+1,j,none⟩=false:=
 ⟨⟨h.a 0 _ rfl,h.a 1 _ rfl,h.a 2 _ rfl,h.a 3 _ rfl⟩,⟨by rw [wG _ _ _ _ _ (0,0) h.b];rfl,by rw [wG _ _ _ _ _ (0,0) h.b];rfl,by rw [wG _ _ _ _ _ (0,0) h.b];rfl,by rw [wG _ _ _ _ _ (0,0) h.b];rfl⟩,fun j=>frozen_of_row wi (A+1) j _ _ h.b⟩
theorem kx.rd {A S:Nat} {wi:World} (h:kx A S wi):RdC wi.drew (some ⟨A,0,none⟩) (cellsOf ah (be4 S)):=.inr ⟨A,0,rfl,fun j u hu=>h.a j u hu⟩
theorem jI {P:Program} {fn:Func} {tmps:Array Value} {w:World} (b a:Nat) (t:TypeId) (hr:fn.results=#[.tmp b,.cell a t]) (H:Nat) (ha:tmps.getD a undef = .pointer (some ⟨H,0,none⟩)) (v2:Value) (hb:tmps.getD b undef=v2) (cs:List Value) (V:Array Value) (hV:cs.toArray=V) (d:TypeDesc)
 (hc:w.rangeAt H 0 cs) (hu:P.underlying t=some d) (hd:(match d with | .struct _ | .array _ _=>true | _=>false)=true) (hi:(P.info? t).map (·.size)=some cs.length):(results fn tmps).run P w = .ok (.tuple #[v2,.agg V]) w:=by
 have h:=aZ (P:=P) w H 0 t cs d hc hu hd hi;rw [hV] at h;unfold results;rw [hr];rw [Array.getD_eq_getD_getElem?] at ha hb;simp [ha,hb,asAddr,Sem.run_bind,h]
theorem fH:(Tryz.prog.info? 139).map (·.size)=some 4:=by kernel_rfl
def mU (w:World) (a l:List Int) (n:Nat) (e:Ending) (w':World):Prop:=
 ∃ b c,e = .returned (.tuple #[.slice (some ⟨b,0,none⟩) (8+n+4) c,.agg (cellsOf ah (be4 (dA (a++l)))).toArray])∧Below w.heap.size w w'∧w.heap.size≤b∧8+n+4≤c∧(∀ j u,(cellsOf ah (aC a l))[j]?=some u→w'.cell? ⟨b,j,none⟩=some u)∧Own w' 1 (.slice (some ⟨b,0,none⟩) (8+n+4) c) (8+n+4) (cellsOf ah (aC a l))
theorem jJ (w:World) (a0 a1 a2 a3:Int) (ha:Byt [a0,a1,a2,a3]) (ao:Option Addr) (n cap:Nat) (l:List Int) (hn:l.length=n) (hr:RdC w ao (cellsOf ah l)) (hb:Byt l) (hm:n≤1000000000) :
 Calls Tryz.prog 78 #[.agg #[.int .u8 a0,.int .u8 a1,.int .u8 a2,.int .u8 a3],.slice ao n cap] w (mU w [a0,a1,a2,a3] l n):=by
 have HN:=wB hn;have HBY:=wB hb;have HAB:=wB ha;have hbA:=(Below.refl w.heap.size w).alloc (wC _) (.cells #[.int .u8 a0,.int .u8 a1,.int .u8 a2,.int .u8 a3] 139);have hA:=wF w (.cells #[.int .u8 a0,.int .u8 a1,.int .u8 a2,.int .u8 a3] 139);obtain ⟨A,hAe⟩:∃ A,w.heap.size=A:=⟨_,rfl⟩;have HAE:=wB hAe;have hB:=wF (w.alloc (.cells #[.int .u8 a0,.int .u8 a1,.int .u8 a2,.int .u8 a3] 139)) (.cells #[.int .u8 0,.int .u8 0,.int .u8 0,.int .u8 0] 139);have hs1:(w.alloc (.cells #[.int .u8 a0,.int .u8 a1,.int .u8 a2,.int .u8 a3] 139)).heap.size=A+1:=by simp [hAe]
 have hk1:=Keep.alloc (fun _=>False) (w.alloc (.cells #[.int .u8 a0,.int .u8 a1,.int .u8 a2,.int .u8 a3] 139)) (.cells #[.int .u8 0,.int .u8 0,.int .u8 0,.int .u8 0] 139);rw [hs1] at hB;rw [hAe] at hA;have HA0:=wB (hk1.old hA id);have HB0:=wB hB;have HBL:=wB (hbA.alloc hbA.size (.cells #[.int .u8 0,.int .u8 0,.int .u8 0,.int .u8 0] 139));have HR:=wB hr;clear hn hr hb ha hbA hA hB hk1;go_enter Tryz.func78,Tryz.ntmps78
 go_upto_region 1 with fail
 clear hAe hs1;generalize (w.alloc (.cells #[.int .u8 a0,.int .u8 a1,.int .u8 a2,.int .u8 a3] 139)).alloc (.cells #[.int .u8 0,.int .u8 0,.int .u8 0,.int .u8 0] 139)=W0 at *;go_wp2_with fail
 refine (fh W0).mono ?_;rintro e w1 ⟨rfl,hw1⟩;obtain ⟨WB,hWB⟩:∃ WB,W0.heap.size=WB:=⟨_,rfl⟩;have HW1:=wB (show W1 w1 WB (.slice none 0 0) [] from by rw [hw1,←hWB];exact ⟨wF W0 _,by simpa [cellsOf] using Own.nil _ 1,by simp [Value.ownBlock]⟩)
 have HP1:=wB (show PcAt w A a0 a1 a2 a3 w1 from by
  have hk:Keep (fun _=>False) W0 w1:=by rw [hw1];exact Keep.alloc _ _ _
  exact ⟨hk.old HA0.out id,hk.old HB0.out id,HBL.out.trans (hk.below HBL.out.size (fun _ _ h=>h))⟩)
 have HAW:=wB (show A+1<WB from by rw [←hWB];exact wJ HB0.out);rw [hWB];clear hw1 hWB HA0 HB0 HBL;obtain ⟨q,hx,hn32,hqe⟩:∃ q:Nat,bits .xor .u32 IntKind.u32.max (n:Int)=(q:Int)∧q<4294967296∧q=4294967295 - n:=⟨_,ph n (by omega),by omega,rfl⟩;have HQE:=wB hqe;clear hqe;go_wp2_with fail
 refine (lR w1 WB (.slice none 0 0) [] HW1.out n (by omega) (by simp)).mono ?_;rintro e w2 ⟨rfl,sv2,h2,k2,n2⟩;have HW2:=wB h2;have HP2:=wB (HP1.out.keep k2 (fun k hk=>by have:=HAW.out;rcases hk with hk | hk;omega;cases hk) (by have:=HAE.out;omega));have HS2:=wB (show ∀ g,sv2.ownBlock=some g→A+1<g from fun g hg=>by have:=HP1.out.lt;rcases n2 g hg with h | h;cases h;omega);clear h2 k2 n2 HP1 HW1;go_wp2_with fail
 rw [show IntKind.u64.wrap (q:Int)=(q:Int) from wrap_u64 (by omega) (by omega)];refine (lR w2 WB sv2 ([]++be4 n) HW2.out q hn32 (by simp [be4])).mono ?_;rintro e w3 ⟨rfl,sv3,h3,k3,n3⟩;have HW3:=wB h3;have HP3:=wB (HP2.out.keep k3 (fun k hk=>by have:=HAW.out;rcases hk with hk | hk;omega;exact HS2.out k hk) (by have:=HAE.out;omega));clear h3 k3 n3 HP2 HW2 HS2;go_wp2_with fail
 refine (iC w3 WB sv3 ([]++be4 n++be4 q) 8 HW3.out rfl (by omega) (by omega)).mono ?_;rintro e w4 ⟨rfl,hb4,hrow4⟩;have HP4:=wB (HP3.out.keep (Keep.of_below hb4 (wC _) (fun _=>False)) (fun _ h=>h.elim) (by have:=HAE.out;omega));have HG4:=wB (show A+1<w3.heap.size from HP3.out.lt)
 have HO4:=wB (show Own w4 1 (.slice (some ⟨w3.heap.size,0,none⟩) 8 8) 8 (cellsOf ah (be4 n++be4 q)) from by
  have:=kw hrow4 (n:=8) rfl (by unfold maxLen;omega);exact this)
 have HR4:=wB (HR.out.below HP4.out.below);clear hb4 hrow4 HP3 HW3;obtain ⟨g4,hg4⟩:∃ g4,w3.heap.size=g4:=⟨_,rfl⟩;rw [hg4];rw [hg4] at HO4 HG4;clear hg4;obtain ⟨i5,hi,hz0,hz1,hz2⟩:=dF (show (Tryz.prog.info? 5).map (fun i=>(i.zero,i.size,i.bytes))=some (some (.int .u8 0),1,1) by kernel_rfl);go_wp2_with (at_builtin;refine du rfl (.tmp 24) (.tmp 25) 59 59 rfl 5 i5 (.int .u8 0) 1 1 Tryz.underlying59 hi hz0 hz1 hz2 rfl (.slice (some ⟨g4,0,none⟩) 8 8) 8 _ rfl HO4.out (.slice ao n cap) n (cellsOf ah l) rfl (Src.ofRd Tryz.underlying59 ao n cap l HN.out HR4.out) (by omega) (by unfold maxLen;omega) (by omega) ?_)
 intro g5 cap5 w5 ho5 hc5;have HK5:=wB (show Keep (fun k=>k=g4) w4 w5 from by rcases hc5 with ⟨_,h⟩ | ⟨_,h⟩;exact h.mono (fun k _ hk=>by cases hk;rfl);exact h.mono (fun _ _ h=>h.elim));have HG5:=wB (show A+1<g5 from by have:=HG4.out;have:=HP4.out.lt;rcases hc5 with ⟨h,_⟩ | ⟨h,_⟩;cases h;omega;omega);have HO5:=wB ho5;have HP5:=wB (HP4.out.keep HK5.out (fun k hk=>by have:=HG4.out;omega) (by have:=HAE.out;omega));clear ho5 hc5 HK5 HO4 HP4 HR4 HG4;have HR5:=wB (HR.out.below HP5.out.below);have HO5A:=wB (show Own w5 1 (.slice (some ⟨A,0,none⟩) 4 4) 4 (cellsOf ah [a0,a1,a2,a3]) from kw HP5.out.a (n:=4) rfl (by unfold maxLen;omega));go_wp2_with (at_builtin;refine du rfl (.tmp 27) (.tmp 28) 59 59 rfl 5 i5 (.int .u8 0) 1 1 Tryz.underlying59 hi hz0 hz1 hz2 rfl (.slice (some ⟨A,0,none⟩) 4 4) 4 _ rfl HO5A.out (.slice ao n cap) n (cellsOf ah l) rfl (Src.ofRd Tryz.underlying59 ao n cap l HN.out HR5.out) (by omega) (by unfold maxLen;omega) (by omega) ?_)
 intro g6 cap6 w6 ho6 hc6
 have HT6:=wB (show w6.there A 0 4 from by
  rcases hc6 with ⟨h,_⟩ | ⟨_,h⟩
  · cases h
    obtain ⟨_,h1 | ⟨g,cap,h1,h2,h3,h4⟩⟩:=ho6
    · cases h1.1
    · cases h1
      intro j hj;rw [Nat.zero_add];exact ⟨h4.there j (by omega),h4.free j (by omega)⟩
  · exact aP (h.old HP5.out.a id) (wC 4))
 have HK6:=wB (show Keep (fun k=>k=A) w5 w6 from by rcases hc6 with ⟨_,h⟩ | ⟨_,h⟩;exact h.mono (fun k _ hk=>by cases hk;rfl);exact h.mono (fun _ _ h=>h.elim))
 have HRD6:=wB (show RdC w6 (some ⟨g6,0,none⟩) (cellsOf ah ([a0,a1,a2,a3]++l)) from by
  obtain ⟨_,h1 | ⟨g,cap,h1,h2,h3,h4⟩⟩:=ho6
  · cases h1.1
  · cases h1
    refine .inr ⟨_,0,rfl,fun j u hu=>?_⟩;rw [Nat.zero_add];refine h4.cell j u ?_;rw [←hu];simp [cellsOf])
 have HB6:=wB (HK6.out.old HP5.out.b (by omega));have HL6:=wB (HP5.out.below.trans (HK6.out.below HP5.out.below.size (fun i hi he=>by have:=HAE.out;omega)));have HO6:=wB (HO5.out.keep HK6.out (fun g hg he=>by have h5:=HG5.out;have hgg:g5=g:=(by cases hg;rfl);have he':g=A:=he;omega));clear ho6 hc6 HK6 HO5 HO5A HR5 HP5;have HBA:=wB (show Byt ([a0,a1,a2,a3]++l) from fun x hx=>by rcases List.mem_append.1 hx with h | h;exact HAB.out x h;exact HBY.out x h);go_wp2_with fail
 refine (sum_at (some ⟨g6,0,none⟩) (4+n) cap6 (u8s ([a0,a1,a2,a3]++l)) w6 (by simp only [u8s,List.length_map,List.length_append,HN.out,List.length_cons,List.length_nil]) (jH HRD6.out HBA.out) (by omega)).mono ?_;rintro e w7 ⟨rfl,hb7⟩;have hk7:=Keep.of_below hb7 (wC _) (fun _=>False);have HT7:=wB (show w7.there A 0 (#[Value.int .u8 0,.int .u8 0,.int .u8 0,.int .u8 0]:Array Value).size from av HT6.out hk7 id);have HB7:=wB (hk7.old HB6.out id);have HL7:=wB (HL6.out.trans (hk7.below HL6.out.size (fun _ _ h=>h)));have HO7:=wB (HO6.out.keep hk7 (fun _ _=>id));obtain ⟨S,hS,hS32⟩:∃ S,crc (u8s ([a0,a1,a2,a3]++l))=S∧S<4294967296:=⟨_,rfl,ut _⟩;have HSE:=wB (show dA ([a0,a1,a2,a3]++l)=S from hS);rw [hS];clear hS hb7 hk7 HT6 HB6 HL6 HO6 HRD6 HBA;have HT8:=wB (show w7.there A 0 (#[.int .u8 ((S:Int) / 16777216),.int .u8 ((S:Int) / 65536 % 256),.int .u8 ((S:Int) / 256 % 256),.int .u8 ((S:Int) % 256)]:Array Value).size from HT7.out);have szA:(Tryz.prog.info? 139).map (·.size)=some (#[.int .u8 ((S:Int) / 16777216),.int .u8 ((S:Int) / 65536 % 256),.int .u8 ((S:Int) / 256 % 256),.int .u8 ((S:Int) % 256)]:Array Value).size:=fH
 have HO8:=wB (show (#[.int .u8 ((S:Int) / 16777216),.int .u8 ((S:Int) / 65536 % 256),.int .u8 ((S:Int) / 256 % 256),.int .u8 ((S:Int) % 256)]:Array Value).all (·.oneCell')=true from all_oneCell_toArray (cs:=[.int .u8 ((S:Int) / 16777216),.int .u8 ((S:Int) / 65536 % 256),.int .u8 ((S:Int) / 256 % 256),.int .u8 ((S:Int) % 256)]) (di ah eE (be4 S)))
 go_upto_region 8 with (first | ((with_reducible refine wpList_store_mid (op:=⟨none,.store 139 (.tmp 2) (.tmp 42),_,_,_,_⟩) ?_ 139 (.tmp 2) (.tmp 42) ?_ A 0 #[.int .u8 ((S:Int) / 16777216),.int .u8 ((S:Int) / 65536 % 256),.int .u8 ((S:Int) / 256 % 256),.int .u8 ((S:Int) % 256)] ?_ ?_ HT8.out szA HO8.out ?_);rfl;rfl;rfl;rfl))
 have hk8:=Keep.setCells w7 A 0 [.int .u8 ((S:Int) / 16777216),.int .u8 ((S:Int) / 65536 % 256),.int .u8 ((S:Int) / 256 % 256),.int .u8 ((S:Int) % 256)];have HX8:=wB (show kx A S (w7.setCells A 0 [.int .u8 ((S:Int) / 16777216),.int .u8 ((S:Int) / 65536 % 256),.int .u8 ((S:Int) / 256 % 256),.int .u8 ((S:Int) % 256)]) from ⟨wT w7 A 0 [.int .u8 ((S:Int) / 16777216),.int .u8 ((S:Int) / 65536 % 256),.int .u8 ((S:Int) / 256 % 256),.int .u8 ((S:Int) % 256)] HT8.out,hk8.old HB7.out (by show ¬ A+1=A;omega)⟩);have HL8:=wB (HL7.out.trans (hk8.below HL7.out.size (fun i hi he=>by have:=HAE.out;omega)));have HO8':=wB (HO7.out.keep hk8 (fun g hg he=>by have h5:=HG5.out;have hgg:g5=g:=(by cases hg;rfl);have he':g=A:=he;omega));clear hk8 HO7 HL7 HB7 HT7 HT8 HO8 szA;generalize w7.setCells A 0 [.int .u8 ((S:Int) / 16777216),.int .u8 ((S:Int) / 65536 % 256),.int .u8 ((S:Int) / 256 % 256),.int .u8 ((S:Int) % 256)]=w8 at *;simp only [Act.put];obtain ⟨⟨x0,x1,x2,x3⟩,⟨y0,y1,y2,y3⟩,yf⟩:=HX8.out.cells;go_region_law (refine bB rfl (.tmp 43) (.tmp 44) 59 59 rfl 5 i5 (.int .u8 0) 1 1 Tryz.underlying59 hi hz0 hz1 hz2 rfl (.slice (some ⟨g5,0,none⟩) (8+n) cap5) (8+n) _ (by first | rfl | simp [Act.eval]) (HO8'.out.keep (Keep.drew (fun _=>False) w8) (fun _ _=>id)) (.slice (some ⟨A,0,none⟩) 4 4) 4 (cellsOf ah (be4 S)) (by first | rfl | simp [Act.eval]) (Src.ofRd Tryz.underlying59 (some ⟨A,0,none⟩) 4 4 (be4 S) rfl HX8.out.rd) (by unfold maxLen;omega) (by omega) ?_;intro ao2 q2 w9 ho9 hk9 hb9;have HX9:=wB (HX8.out.keep ((Keep.drew (fun _=>False) w8).trans hk9 (Z:=fun k=>k=g5) (fun _ _ h=>h.elim) (fun k _ hk=>by cases hk;rfl)) HG5.out);have HO9:=wB ho9;have HK9:=wB hk9;have HB9:=wB hb9;clear ho9 hk9 hb9;obtain ⟨⟨x0,x1,x2,x3⟩,⟨y0,y1,y2,y3⟩,yf⟩:=HX9.out.cells)
 all_goals
  obtain ⟨g9,rfl,HG9⟩:∃ g9,ao2=some ⟨g9,0,none⟩∧A+1<g9:=by
   obtain ⟨_,h1 | ⟨g,cap,h1,_⟩⟩:=HO9.out
   · cases h1.1
   · cases h1
     refine ⟨g,rfl,?_⟩;have h5:=HG5.out;have h8:=wJ HX8.out.b;rcases HB9.out with h | ⟨g',h,h2⟩
     · have e:g=g5:=by simpa [Value.ownBlock] using h
       omega
     · have e:g=g':=by simpa [Value.ownBlock] using h
       have:w8.drew.heap.size=w8.heap.size:=rfl;omega
  have HG9':=wB HG9;clear HG9;have HTH:=wB (show w9.there (A+1) 0 4 from aP HX9.out.b (wC 4));have HKE:=wB (Keep.setCells w9 (A+1) 0 [.int .u8 ((S:Int) / 16777216),.int .u8 ((S:Int) / 65536 % 256),.int .u8 ((S:Int) / 256 % 256),.int .u8 ((S:Int) % 256)]);have HRE:=wB (wT w9 (A+1) 0 [.int .u8 ((S:Int) / 16777216),.int .u8 ((S:Int) / 65536 % 256),.int .u8 ((S:Int) / 256 % 256),.int .u8 ((S:Int) % 256)] HTH.out)
  have HPE:=wB (show mU w [a0,a1,a2,a3] l n (.returned (.tuple #[.slice (some ⟨g9,0,none⟩) (8+n+4) q2,.agg #[.int .u8 ((S:Int) / 16777216),.int .u8 ((S:Int) / 65536 % 256),.int .u8 ((S:Int) / 256 % 256),.int .u8 ((S:Int) % 256)]])) (w9.setCells (A+1) 0 [.int .u8 ((S:Int) / 16777216),.int .u8 ((S:Int) / 65536 % 256),.int .u8 ((S:Int) / 256 % 256),.int .u8 ((S:Int) % 256)]) from by
   have hA:=HAE.out;refine ⟨g9,q2,by rw [HSE.out];rfl,?_,by have:=HG9'.out;omega,?_,fun j u hu=>?_,?_⟩
   · have hs:=HL8.out.size
     have h9:=(((Keep.drew (fun _=>False) w8).trans HK9.out (Z:=fun k=>k=g5) (fun _ _ h=>h.elim) (fun k _ hk=>by cases hk;rfl)).trans HKE.out (Z:=fun k=>A<k) (fun k _ hk=>by have:=HG5.out;omega) (fun k _ hk=>by omega));exact HL8.out.trans (h9.below hs (fun i hi he=>by omega))
   · obtain ⟨_,h1 | ⟨g,cap,h1,h2,_⟩⟩:=HO9.out
     · cases h1.1
     · cases h1;exact h2
   · refine HKE.out.cell (p:=⟨g9,j,none⟩) ?_ (by have:=HG9'.out;show ¬ g9=A+1;omega)
     obtain ⟨_,h1 | ⟨g,cap,h1,h2,h3,h4⟩⟩:=HO9.out
     · cases h1.1
     · cases h1
       refine h4.cell j u ?_;rw [←hu];unfold aC;rw [HSE.out,HN.out,←HQE.out];simp [cellsOf]
   · have ho:=HO9.out.keep HKE.out (fun g hg he=>by have e:g9=g:=(by cases hg;rfl);have h2:=HG9'.out;have h3:g=A+1:=he;omega)
     have e:cellsOf ah (aC [a0,a1,a2,a3] l)=cellsOf ah (be4 n++be4 q)++cellsOf ah l++cellsOf ah (be4 S):=by
      unfold aC;rw [HSE.out,HN.out,←HQE.out];simp [cellsOf]
     rw [e];exact ho)
  clear x0 x1 x2 x3 y0 y1 y2 y3;go_wp2_with fail
  exact bodyPost_ret (v:=.tuple #[.slice (some ⟨g9,0,none⟩) (8+n+4) q2,.agg #[.int .u8 ((S:Int) / 16777216),.int .u8 ((S:Int) / 65536 % 256),.int .u8 ((S:Int) / 256 % 256),.int .u8 ((S:Int) % 256)]]) (jI 4 5 139 Tryz.results78 (A+1) rfl _ rfl [.int .u8 ((S:Int) / 16777216),.int .u8 ((S:Int) / 65536 % 256),.int .u8 ((S:Int) / 256 % 256),.int .u8 ((S:Int) % 256)] _ rfl _ HRE.out Tryz.underlying139 rfl fH) rfl HPE.out
end Go.Proofs.YtcaicgipibcicaaGreat
namespace Go.Proofs.YtcaicgipibcicaaGreat
open Go.RowKit
theorem jh {v:Nat} (hv:v<4294967296):beI (be4 v)=(v:Int):=by
 simp only [beI,be4,List.foldl_cons,List.foldl_nil];omega
theorem nC {d:List Int} (hd:d.length=4) (hb:Byt d):be4 (beI d).toNat=d:=by
 obtain ⟨x0,x1,x2,x3,rfl⟩:=ib hd;have h0:=hb x0 (by simp);have h1:=hb x1 (by simp);have h2:=hb x2 (by simp);have h3:=hb x3 (by simp);simp only [beI,be4,List.foldl_cons,List.foldl_nil];have e:((((((0*256+x0)*256+x1)*256+x2)*256+x3).toNat:Nat):Int)=(((0*256+x0)*256+x1)*256+x2)*256+x3:=by omega
 rw [e];simp only [List.cons.injEq,and_true];omega
theorem hO {d:List Int} (hd:d.length=4) (hb:Byt d):0≤beI d∧beI d<4294967296:=by
 obtain ⟨x0,x1,x2,x3,rfl⟩:=ib hd;have h0:=hb x0 (by simp);have h1:=hb x1 (by simp);have h2:=hb x2 (by simp);have h3:=hb x3 (by simp);simp only [beI,List.foldl_cons,List.foldl_nil];omega
theorem dB (v:Nat):(be4 v).length=4:=rfl
theorem nD {v:Nat} {d:List Int} (hv:v<4294967296) (hd:d.length=4) (hb:Byt d):be4 v=d↔beI d=(v:Int):=by
 constructor
 · rintro rfl
   exact jh hv
 · intro h
   have:=nC hd hb;rw [h] at this
   simpa using this
def aR (a l:List Int):Option (List Int × Nat):=
 if l.length<8 then none
 else if beI ((l.drop 4).take 4)≠4294967295 - beI (l.take 4)∨l.length<(beI (l.take 4)).toNat+12 then none
 else if beI ((l.drop (8+(beI (l.take 4)).toNat)).take 4)=(dA (a++(l.drop 8).take (beI (l.take 4)).toNat):Int) then some ((l.drop 8).take (beI (l.take 4)).toNat,dA (a++(l.drop 8).take (beI (l.take 4)).toNat))
 else none
theorem uO {a l:List Int} {n:Nat} (hb:Byt l) (hn:beI (l.take 4)=(n:Int)) (hm:beI ((l.drop 4).take 4)=4294967295 - (n:Int)) (hlen:n+12≤l.length) :
 aC a ((l.drop 8).take n)=l.take (n+12)↔beI ((l.drop (8+n)).take 4)=(dA (a++(l.drop 8).take n):Int):=by
 have l1:(l.take 4).length=4:=by rw [wV];omega
 have l2:((l.drop 4).take 4).length=4:=by rw [wV,xt];omega
 have l3:((l.drop (8+n)).take 4).length=4:=by rw [wV,xt];omega
 have l4:((l.drop 8).take n).length=n:=by rw [wV,xt];omega
 have hr:=hO l1 (hb.take 4);have hr2:=hO l2 ((hb.drop 4).take 4);have e1:be4 n=l.take 4:=(nD (by omega) l1 (hb.take 4)).2 hn;have e2:be4 (4294967295 - n)=(l.drop 4).take 4:=(nD (by omega) l2 ((hb.drop 4).take 4)).2 (by omega)
 have split:l.take (n+12)=l.take 4++(l.drop 4).take 4++(l.drop 8).take n++(l.drop (8+n)).take 4:=by
  rw [show n+12=4+(4+(n+4)) by omega,List.take_add,List.take_add,List.take_add,List.drop_drop,List.drop_drop];simp only [List.append_assoc]
 unfold aC;rw [l4,split,e1,e2];rw [List.append_cancel_left_eq];exact nD (fd _) l3 ((hb.drop (8+n)).take 4)
end Go.Proofs.YtcaicgipibcicaaGreat
