/- The codec's Reader: ids, points. -/
import Derived.Test.YtcaicgipibcicaaGreatQRdX
import Derived.Test.YtcaicgipibcicaaGreatQAuMap
import Derived.StillTailTactics
set_option maxRecDepth 100000
set_option maxHeartbeats 8000000
set_option linter.unusedSimpArgs false
set_option linter.unusedVariables false
open Go renaming bodyPost_ret→xe
open Go.Lib renaming hid→wB
open Go.World renaming rangeAt_setCells_same→wT
open Nat renaming le_refl→wC
open Option renaming bind_some→wQ
namespace Go.Proofs.YtcaicgipibcicaaGreat
open Go.RowKit Go.Sort
theorem gK {α:Type} {l:List α} (h:l.length=8):∃ a b c d e f g i,l=[a,b,c,d,e,f,g,i]:=by
 match l,h with
 | [a,b,c,d,e,f,g,i],_=>exact ⟨a,b,c,d,e,f,g,i,rfl⟩
theorem ib {α:Type} {l:List α} (h:l.length=4):∃ a b c d,l=[a,b,c,d]:=by
 match l,h with
 | [a,b,c,d],_=>exact ⟨a,b,c,d,rfl⟩
theorem aP {w:World} {B n:Nat} {cs:Array Value} {t:TypeId} (h:w.heap[B]?=some (.cells cs t (0,0))) (hn:n≤cs.size):w.there B 0 n:=fun j hj=>by
 rw [Nat.zero_add];exact ⟨by rw [cell_of_row w B j cs t (0,0) h,Array.getElem?_eq_getElem (by omega)];rfl,frozen_of_row w B j _ t h⟩
theorem id_rd (w:World) (R G:Nat) (s:Option (List Int)) (hRG:R≠G) (hlt:G<w.heap.size) (h:RdS w R G s) :
 Calls Tryz.prog 210 #[.pointer (some ⟨R,0,none⟩)] w fun e w'=>∃ i0 i1 i2 i3 i4 i5 i6 i7:Int,e = .returned (.agg #[.int .u8 i0,.int .u8 i1,.int .u8 i2,.int .u8 i3,.int .u8 i4,.int .u8 i5,.int .u8 i6,.int .u8 i7])∧Byt [i0,i1,i2,i3,i4,i5,i6,i7]∧Read w R G s (bK 8) [i0,i1,i2,i3,i4,i5,i6,i7] w':=by
 have H:=wB (h.below ((Below.refl w.heap.size w).alloc (wC _) (.cells #[.int .u8 0,.int .u8 0,.int .u8 0,.int .u8 0,.int .u8 0,.int .u8 0,.int .u8 0,.int .u8 0] 72)));have HK0:=wB (Keep.alloc (fun k=>k=R) w (.cells #[.int .u8 0,.int .u8 0,.int .u8 0,.int .u8 0,.int .u8 0,.int .u8 0,.int .u8 0,.int .u8 0] 72));have HN0:=wB (heap_alloc_new w (.cells #[.int .u8 0,.int .u8 0,.int .u8 0,.int .u8 0,.int .u8 0,.int .u8 0,.int .u8 0,.int .u8 0] 72));have HRL:=wB h.lt;have HRG:=wB hRG;have HGL:=wB hlt;clear h hRG hlt;go_enter Tryz.func210,Tryz.ntmps210
 go_upto_region 1 with fail
 generalize w.alloc (.cells #[.int .u8 0,.int .u8 0,.int .u8 0,.int .u8 0,.int .u8 0,.int .u8 0,.int .u8 0,.int .u8 0] 72)=W at *;obtain ⟨B,hB⟩:∃ B,w.heap.size=B:=⟨_,rfl⟩;have HB:=wB hB;rw [hB] at HN0 HRL HGL ⊢;clear hB;go_wp2_with fail
 refine (next_any W R G 8 s HRG.out (by omega) (by omega) H.out).mono ?_;rintro e w2 ⟨hk,hs,he⟩;have HN2:=wB (hk.old HN0.out (by have:=HRL.out;omega));have HK2:=wB (HK0.out.trans hk (fun _ _ h=>h) (fun _ _ h=>h):Keep (fun k=>k=R) w w2);clear hk;rcases ji s 8 with ⟨l,rfl,hl,ht⟩ | ht
 · simp only [wQ,ht,Option.map_some] at hs he
   obtain ⟨b,o,c,rfl,hc1,hc⟩:=he;obtain ⟨i0,i1,i2,i3,i4,i5,i6,i7,h8⟩:=gK (show (l.take 8).length=8 by rw [List.length_take];omega);have HBY:=wB (show Byt [i0,i1,i2,i3,i4,i5,i6,i7] by rw [←h8];exact H.out.byt.take 8);rw [h8] at hc ht;have HC:=wB (fun (j:Nat) (u:Value) (hu:([.int .u8 i0,.int .u8 i1,.int .u8 i2,.int .u8 i3,.int .u8 i4,.int .u8 i5,.int .u8 i6,.int .u8 i7]:List Value)[j]?=some u)=>hc j u hu);have HS:=wB hs;have HT:=wB ht;clear hs hc ht hl h8;have hAA:∀ W:World,(Instr.arrayAt 72 (.slice (some ⟨b,o,none⟩) 8 c)).run Tryz.prog W = .ok (.pointer (some ⟨b,o,none⟩)) W:=fun W=>by kernel_rfl
   have HTH:=wB (show w2.there B 0 (#[.int .u8 i0,.int .u8 i1,.int .u8 i2,.int .u8 i3,.int .u8 i4,.int .u8 i5,.int .u8 i6,.int .u8 i7]:Array Value).size from aP HN2.out (wC 8));have HR1:=wB (wT w2 B 0 [.int .u8 i0,.int .u8 i1,.int .u8 i2,.int .u8 i3,.int .u8 i4,.int .u8 i5,.int .u8 i6,.int .u8 i7] HTH.out);have HK3:=wB (show Keep (fun k=>k=R) w (w2.setCells B 0 [.int .u8 i0,.int .u8 i1,.int .u8 i2,.int .u8 i3,.int .u8 i4,.int .u8 i5,.int .u8 i6,.int .u8 i7]) from HK2.out.trans (Keep.setCells w2 B 0 [.int .u8 i0,.int .u8 i1,.int .u8 i2,.int .u8 i3,.int .u8 i4,.int .u8 i5,.int .u8 i6,.int .u8 i7]) (fun _ _ h=>h) (fun i hi h=>by have h:i=B:=h;have:=HB.out;omega));have HS3:=wB (HS.out.keep (Keep.setCells w2 B 0 [.int .u8 i0,.int .u8 i1,.int .u8 i2,.int .u8 i3,.int .u8 i4,.int .u8 i5,.int .u8 i6,.int .u8 i7]) (by have:=HRL.out;omega) (by have:=HGL.out;omega));have HE:=wB (show Read w R G (some l) (bK 8) [i0,i1,i2,i3,i4,i5,i6,i7] (w2.setCells B 0 [.int .u8 i0,.int .u8 i1,.int .u8 i2,.int .u8 i3,.int .u8 i4,.int .u8 i5,.int .u8 i6,.int .u8 i7]) from ⟨_,HS3.out,Step.some HT.out,HK3.out⟩);go_wp2_with (first | ((with_reducible refine ad (o:=⟨some 10,_,_,_,_,_⟩) ?_ 72 (.tmp 9) ?_ b o ?_ [.int .u8 i0,.int .u8 i1,.int .u8 i2,.int .u8 i3,.int .u8 i4,.int .u8 i5,.int .u8 i6,.int .u8 i7] #[.int .u8 i0,.int .u8 i1,.int .u8 i2,.int .u8 i3,.int .u8 i4,.int .u8 i5,.int .u8 i6,.int .u8 i7] ?_ _ HC.out Tryz.underlying72 ?_ ?_ ?_);rfl;rfl;rfl;rfl;rfl;exact kt) | ((with_reducible refine wpList_store_mid (op:=⟨none,.store 72 (.tmp 2) (.tmp 10),_,_,_,_⟩) ?_ 72 (.tmp 2) (.tmp 10) ?_ B 0 #[.int .u8 i0,.int .u8 i1,.int .u8 i2,.int .u8 i3,.int .u8 i4,.int .u8 i5,.int .u8 i6,.int .u8 i7] ?_ ?_ HTH.out ?_ ?_ ?_);rfl;rfl;rfl;rfl;exact kt;exact all_oneCell_toArray (cs:=[.int .u8 i0,.int .u8 i1,.int .u8 i2,.int .u8 i3,.int .u8 i4,.int .u8 i5,.int .u8 i6,.int .u8 i7]) (by intro v hv;simp only [List.mem_cons,List.not_mem_nil,or_false] at hv;rcases hv with rfl | rfl | rfl | rfl | rfl | rfl | rfl | rfl <;> rfl)))
   refine xe (bV 2 72 Tryz.results210 B rfl [.int .u8 i0,.int .u8 i1,.int .u8 i2,.int .u8 i3,.int .u8 i4,.int .u8 i5,.int .u8 i6,.int .u8 i7] #[.int .u8 i0,.int .u8 i1,.int .u8 i2,.int .u8 i3,.int .u8 i4,.int .u8 i5,.int .u8 i6,.int .u8 i7] rfl _ (fun j u hu=>HR1.out j u hu) Tryz.underlying72 rfl kt) rfl ?_;exact ⟨i0,i1,i2,i3,i4,i5,i6,i7,rfl,HBY.out,HE.out⟩
 · rw [ht] at hs he
   simp only at he;subst he;have HS:=wB hs;have HT:=wB ht;obtain ⟨V0,hV0⟩:∃ V0:Array Value,V0=#[.int .u8 0,.int .u8 0,.int .u8 0,.int .u8 0,.int .u8 0,.int .u8 0,.int .u8 0,.int .u8 0]:=⟨_,rfl⟩;have HTH:=wB (show w2.there B 0 (#[.int .u8 0,.int .u8 0,.int .u8 0,.int .u8 0,.int .u8 0,.int .u8 0,.int .u8 0,.int .u8 0]:Array Value).size from aP HN2.out (wC 8));have HR1:=wB (wT w2 B 0 [.int .u8 0,.int .u8 0,.int .u8 0,.int .u8 0,.int .u8 0,.int .u8 0,.int .u8 0,.int .u8 0] HTH.out);have HK3:=wB (show Keep (fun k=>k=R) w (w2.setCells B 0 [.int .u8 0,.int .u8 0,.int .u8 0,.int .u8 0,.int .u8 0,.int .u8 0,.int .u8 0,.int .u8 0]) from HK2.out.trans (Keep.setCells w2 B 0 _) (fun _ _ h=>h) (fun i hi h=>by have h:i=B:=h;have:=HB.out;omega));have HS3:=wB (HS.out.keep (Keep.setCells w2 B 0 [.int .u8 0,.int .u8 0,.int .u8 0,.int .u8 0,.int .u8 0,.int .u8 0,.int .u8 0,.int .u8 0]) (by have:=HRL.out;omega) (by have:=HGL.out;omega));have HE:=wB (show Read w R G s (bK 8) [0,0,0,0,0,0,0,0] (w2.setCells B 0 [.int .u8 0,.int .u8 0,.int .u8 0,.int .u8 0,.int .u8 0,.int .u8 0,.int .u8 0,.int .u8 0]) from ⟨_,HS3.out,⟨by rw [HT.out],fun x l h=>by rw [HT.out] at h;cases h⟩,HK3.out⟩);clear hs ht;go_wp2_with (first | ((with_reducible refine wpList_store_mid (op:=⟨none,.store 72 (.tmp 2) (.tmp 11),_,_,_,_⟩) ?_ 72 (.tmp 2) (.tmp 11) ?_ B 0 #[.int .u8 0,.int .u8 0,.int .u8 0,.int .u8 0,.int .u8 0,.int .u8 0,.int .u8 0,.int .u8 0] ?_ ?_ HTH.out ?_ ?_ ?_);rfl;rfl;rfl;rfl;exact kt;exact all_oneCell_toArray (cs:=[.int .u8 0,.int .u8 0,.int .u8 0,.int .u8 0,.int .u8 0,.int .u8 0,.int .u8 0,.int .u8 0]) (by intro v hv;simp only [List.mem_cons,List.not_mem_nil,or_false] at hv;rcases hv with rfl | rfl | rfl | rfl | rfl | rfl | rfl | rfl <;> rfl)))
   refine xe (bV 2 72 Tryz.results210 B rfl [.int .u8 0,.int .u8 0,.int .u8 0,.int .u8 0,.int .u8 0,.int .u8 0,.int .u8 0,.int .u8 0] _ rfl _ (fun j u hu=>HR1.out j u hu) Tryz.underlying72 rfl kt) rfl ?_;exact ⟨0,0,0,0,0,0,0,0,rfl,by intro x hx;simp at hx;omega,HE.out⟩
theorem wrap_u16 {n:Int} (h1:0≤n) (h2:n<65536):IntKind.u16.wrap n=n:=by
 simp [IntKind.wrap,IntKind.signed,IntKind.bits];omega
theorem jK {a b:Int} (a1:0≤a) (a2:a≤255) (b1:0≤b) (b2:b≤255):IntKind.i16.wrap (bits .or .u16 (IntKind.u16.wrap (IntKind.u16.wrap a*256)) (IntKind.u16.wrap b))=cJ a b:=by
 rw [wrap_u16 a1 (by omega),wrap_u16 b1 (by omega),wrap_u16 (n:=a*256) (by omega) (by omega)];obtain ⟨m,rfl⟩:∃ m:Nat,a=m:=⟨a.toNat,by omega⟩;obtain ⟨n,rfl⟩:∃ n:Nat,b=n:=⟨b.toNat,by omega⟩;have h:=(bits_nat .u16 16 (by decide) (fun n h1 h2=>wrap_u16 h1 (by omega)) (m*256) n (by omega) (by omega)).2
 have hor:m*256 ||| n=m*256+n:=by
  have:=Nat.shiftLeft_add_eq_or_of_lt (show n<2 ^ 8 by omega) m;rw [Nat.shiftLeft_eq] at this;exact this.symm
 rw [hor] at h;rw [show ((m:Int)*256)=((m*256:Nat):Int) by omega,h];unfold cJ;simp [IntKind.wrap,IntKind.signed,IntKind.bits];split <;> split <;> omega
theorem lW {a b:Int} (a1:0≤a) (a2:a≤255) (b1:0≤b) (b2:b≤255):IntKind.i16.wrap (bits .or .u16 (a*256) b)=cJ a b:=by
 have h:=jK a1 a2 b1 b2;rwa [wrap_u16 a1 (by omega),wrap_u16 b1 (by omega),wrap_u16 (n:=a*256) (by omega) (by omega)] at h
theorem rG {a b:Int} (a1:0≤a) (a2:a≤255) (b1:0≤b) (b2:b≤255):aY (cJ a b):=by
 unfold cJ aY;split <;> omega
theorem uV (w:World) (R G:Nat) (s:Option (List Int)) (hRG:R≠G) (hlt:G<w.heap.size) (h:RdS w R G s) :
 Calls Tryz.prog 212 #[.pointer (some ⟨R,0,none⟩)] w fun e w'=>∃ x y:Int,e = .returned (.agg #[.int .i16 x,.int .i16 y])∧aY x∧aY y∧Read w R G s dg (x,y) w':=by
 have H:=wB (h.below ((Below.refl w.heap.size w).alloc (wC _) (.cells #[.int .i16 0,.int .i16 0] 75)));have HK0:=wB (Keep.alloc (fun k=>k=R) w (.cells #[.int .i16 0,.int .i16 0] 75));have HN0:=wB (heap_alloc_new w (.cells #[.int .i16 0,.int .i16 0] 75));have HRL:=wB h.lt;have HRG:=wB hRG;have HGL:=wB hlt;clear h hRG hlt;go_enter Tryz.func212,Tryz.ntmps212
 go_upto_region 1 with fail
 generalize w.alloc (.cells #[.int .i16 0,.int .i16 0] 75)=W at *;obtain ⟨B,hB⟩:∃ B,w.heap.size=B:=⟨_,rfl⟩;have HB:=wB hB;rw [hB] at HN0 HRL HGL ⊢;clear hB;go_wp2_with fail
 refine (next_any W R G 4 s HRG.out (by omega) (by omega) H.out).mono ?_;rintro e w2 ⟨hk,hs,he⟩;have HN2:=wB (hk.old HN0.out (by have:=HRL.out;omega));have HK2:=wB (HK0.out.trans hk (fun _ _ h=>h) (fun _ _ h=>h):Keep (fun k=>k=R) w w2);clear hk;rcases ji s 4 with ⟨l,rfl,hl,ht⟩ | ht
 · simp only [wQ,ht,Option.map_some] at hs he
   obtain ⟨b,o,c,rfl,hc1,hc⟩:=he;obtain ⟨i0,i1,i2,i3,h8⟩:=ib (show (l.take 4).length=4 by rw [List.length_take];omega);have HBY:=wB (show Byt [i0,i1,i2,i3] by rw [←h8];exact H.out.byt.take 4);have HLL:=wB (show l=i0::i1::i2::i3::l.drop 4 by rw [←List.take_append_drop 4 l,h8];simp);rw [h8] at hc ht;have c0:w2.cell? ⟨b,o,none⟩=some (.int .u8 i0):=hc 0 _ rfl;have c1:w2.cell? ⟨b,o+1,none⟩=some (.int .u8 i1):=hc 1 _ rfl;have c2:w2.cell? ⟨b,o+2,none⟩=some (.int .u8 i2):=hc 2 _ rfl;have c3:w2.cell? ⟨b,o+3,none⟩=some (.int .u8 i3):=hc 3 _ rfl;have hnn:∀ W:World,(binOp .eql 59 (.slice (some ⟨b,o,none⟩) 4 c) (.slice none 0 0)).run Tryz.prog W = .ok (.bool false) W:=fun W=>Lib.run_eql_slice_some_nil W _ _ _ Tryz.underlying59
   have HS:=wB hs;have HT:=wB ht;obtain ⟨q0,q1⟩:=cells2 HN2.out;have qf:=fun j=>frozen_of_row w2 B j _ _ HN2.out
   have hBl:=lt_of_block HN2.out;obtain ⟨a1,a2⟩:=HBY.out i0 (by simp);obtain ⟨a3,a4⟩:=HBY.out i1 (by simp);obtain ⟨a5,a6⟩:=HBY.out i2 (by simp);obtain ⟨a7,a8⟩:=HBY.out i3 (by simp);clear hs hc ht hl h8;go_wp2_with fail
   go_still_tail 23,(by kernel_rfl)
   change wpList _ _ _ _ _ w2.drew
   go_wp2_with fail
   simp only [jK a1 a2 a3 a4,jK a5 a6 a7 a8,lW a1 a2 a3 a4,lW a5 a6 a7 a8];have HQ:=wB (ae (ae HN2.out 0 (.int .i16 (cJ i0 i1))) 1 (.int .i16 (cJ i2 i3)));have HKQ:=wB ((aJ w2 B 0 (.int .i16 (cJ i0 i1))).trans (aJ _ B 1 (.int .i16 (cJ i2 i3))) (fun _ _ h=>h) (fun _ _ h=>h) (Z:=fun k=>k=B))
   have HP:=wB (show dg l=some ((cJ i0 i1,cJ i2 i3),l.drop 4) by
    have h:=HLL.out;generalize l.drop 4=t at *;subst h;rfl)
   have HE:=wB (show Read w R G (some l) dg (cJ i0 i1,cJ i2 i3) (((w2.setCell ⟨B,0,none⟩ (.int .i16 (cJ i0 i1))).setCell ⟨B,1,none⟩ (.int .i16 (cJ i2 i3))).drew) from
    ⟨_,(HS.out.keep HKQ.out (by have:=HRL.out;omega) (by have:=HGL.out;omega)).below (Below.refl _ _).drew,Step.some HP.out,(HK2.out.trans HKQ.out (fun _ _ h=>h) (fun i hi h=>by have h:i=B:=h;have:=HB.out;omega) (Z:=fun k=>k=R)).trans (Keep.drew (fun _=>False) _) (fun _ _ h=>h) (fun _ _ h=>h.elim)⟩)
   refine xe (gn 2 75 Tryz.results212 B rfl #[.int .i16 (cJ i0 i1),.int .i16 (cJ i2 i3)] _ HQ.out _ Tryz.underlying75 rfl (by kernel_rfl)) rfl ?_;exact ⟨_,_,rfl,rG a1 a2 a3 a4,rG a5 a6 a7 a8,HE.out⟩
 · rw [ht] at hs he
   simp only at he;subst he;have hnil:∀ W:World,(binOp .eql 59 (.slice none 0 0) (.slice none 0 0)).run Tryz.prog W = .ok (.bool true) W:=fun W=>Lib.run_eql_slice_nil_nil W _ _ Tryz.underlying59
   have HS:=wB hs;have HT:=wB ht;obtain ⟨q0,q1⟩:=cells2 HN2.out;have qf:=fun j=>frozen_of_row w2 B j _ _ HN2.out
   have hBl:=lt_of_block HN2.out;clear hs ht;go_wp2_with fail
   have HQ:=wB (ae (ae HN2.out 0 (.int .i16 0)) 1 (.int .i16 0));have HKQ:=wB ((aJ w2 B 0 (.int .i16 0)).trans (aJ _ B 1 (.int .i16 0)) (fun _ _ h=>h) (fun _ _ h=>h) (Z:=fun k=>k=B))
   have HP:=wB (show s.bind dg=none by
    cases s with
    | none=>rfl
    | some l=>
      have h:=HT.out;simp only [wQ] at h ⊢
      match l with
      | []=>rfl
      | [a]=>rfl
      | [a,b]=>rfl
      | [a,b,c]=>rfl
      | a::b::c::d::r=>simp [bK] at h)
   have HE:=wB (show Read w R G s dg (0,0) ((w2.setCell ⟨B,0,none⟩ (.int .i16 0)).setCell ⟨B,1,none⟩ (.int .i16 0)) from
    ⟨_,HS.out.keep HKQ.out (by have:=HRL.out;omega) (by have:=HGL.out;omega),⟨by rw [HP.out];rfl,fun x l h=>by rw [HP.out] at h;cases h⟩,HK2.out.trans HKQ.out (fun _ _ h=>h) (fun i hi h=>by have h:i=B:=h;have:=HB.out;omega) (Z:=fun k=>k=R)⟩)
   refine xe (gn 2 75 Tryz.results212 B rfl #[.int .i16 0,.int .i16 0] _ HQ.out _ Tryz.underlying75 rfl (by kernel_rfl)) rfl ?_;exact ⟨0,0,rfl,by unfold aY;omega,by unfold aY;omega,HE.out⟩
end Go.Proofs.YtcaicgipibcicaaGreat
