/- The gate reads numbers, as many as are asked for. -/
import Derived.Test.YtcaicgipibcicaaGreatQRdL2
import Derived.Test.YtcaicgipibcicaaGreatQAuRef6
set_option maxRecDepth 100000
set_option maxHeartbeats 16000000
set_option linter.unusedSimpArgs false
set_option linter.unusedVariables false
open Go.Lib renaming hid→wB
open Go.World renaming block_lt_of_cell?→wK
open Nat renaming add_zero→xB,zero_add→wL
namespace Go.Proofs.YtcaicgipibcicaaGreat
open Go.RowKit Go.Sort
def pp (w:World) (g R G L a:Nat) (s:Option (List Int)) (n:Nat) (w':World):Prop:=
 ∃ (xs:List Int) (s':Option (List Int)) (sv:Value),(∀ x ∈ xs,ar x)∧xs.length≤n∧GtR w' g R G s'∧Step (dm eT n) s s' xs∧aq w g R L a 1 w'∧w'.cell? ⟨L,a,none⟩=some sv∧Own w' 1 sv xs.length (cellsOf bL xs)∧∀ b,sv.ownBlock=some b→w.heap.size≤b
theorem pq {w:World} {g R G L a N:Nat} {s:Option (List Int)} {n j:Nat} {xs:List Int} {sj:Option (List Int)} {sv:Value} {wr:World}
 (hj:j≤n) (h:cX w g R G L a N s eT bL ar 1 none j xs sj sv wr) (hN:w.heap.size≤N+1) (hend:n=j∨sj=none):pp w g R G L a s n wr:=by
 refine ⟨xs,sj,sv,h.ok,by rw [h.len];exact hj,h.gate,?_,h.put,h.cell,by rw [h.len];exact h.own,fun b hb=>by have:=h.new b hb;omega⟩;rcases hend with h1 | h1
 · subst h1;exact h.step
 · subst h1;exact h.step.repFail hj xs
theorem rE (w:World) (g R G L a:Nat) (s:Option (List Int)) (h:GtR w g R G s) (hc:w.cell? ⟨L,a,none⟩=some (.slice none 0 0)) (hth:w.there L a 1) (hL:L≠g∧L≠R∧L≠G) (n:Nat) (hn:n≤4096) :
 Calls Tryz.prog 171 #[.pointer (some ⟨g,0,none⟩),.pointer (some ⟨L,a,none⟩),.int .i64 (n:Int)] w fun e w'=>e = .returned (.tuple #[])∧pp w g R G L a s n w':=by
 have HLT:=wB h.lt;have HLL:=wB (show L<w.heap.size from wK w ⟨L,a,none⟩ hc);have HL:=wB hL;have HTH:=wB hth;have HA:=wB (show e9 w g R G L (w.heap.size - 1) none from ⟨⟨HLT.out.1,HLT.out.2.1,HLT.out.2.2,HLL.out⟩,HL.out,by omega,fun _ h=>by cases h⟩);have HNN:=wB (show w.heap.size - 1<w.heap.size from by have:=HLL.out;omega);obtain ⟨N,hN⟩:∃ N,w.heap.size - 1=N:=⟨_,rfl⟩;rw [hN] at HA HNN;have HN1:=wB (show w.heap.size≤N+1 from by omega)
 have H0:=wB (show cX w g R G L a N s eT bL ar 1 none 0 [] s (.slice none 0 0) w from
  ⟨rfl,(fun x hx=>by cases hx),h,Step.rep0 _ _,aq.refl _ _ _ _ _ _,hc,⟨rfl,.inl ⟨rfl,rfl⟩⟩,(fun b hb=>by cases hb),fun v hv=>by cases hv⟩)
 clear h hc hth hL hN;have hn63:n≤9223372036854775807:=by omega
 go_enter Tryz.func171,Tryz.ntmps171
 go_wp2_with fail
 go_loopw [6] (fun i wr=>Hid (∃ (j:Nat) (xs:List Int) (sj:Option (List Int)) (sv:Value),i = .int .i64 j∧j≤n∧cX w g R G L a N s eT bL ar 1 none j xs sj sv wr)) (fun i _=>n - (intOf i).toNat)
 case atStart=>exact wB ⟨0,[],s,_,rfl,Nat.zero_le _,H0.out⟩
 case round=>
  clear H0;obtain ⟨j,xs,sj,sv,rfl,hj,hr⟩:=hrel.out;clear hrel;have HR:=wB hr;clear hr;by_cases hlt:j<n
  · have b1:decide ((j:Int)<(n:Int))=true:=decide_eq_true (by omega)
    have b1':decide (j<n)=true:=decide_eq_true hlt;go_wp2_with fail
    refine (c7 wr g R G sj HR.out.gate).mono ?_;rintro e w4 ⟨rfl,hg4,hk4⟩;have HR4:=wB (HR.out.gated HA.out hg4 hk4);clear hg4 hk4;cases sj with
    | none=>
      have HE:=wB (pq hj HR4.out HN1.out (.inr rfl));go_wp2_with fail
      exact bodyPost_end (v:=.tuple #[]) (by simp [results,Tryz.results171,go_sem]) rfl ⟨rfl,HE.out⟩
    | some lj=>
      obtain ⟨bad4,s4',hb4,hr4,hn4,hG4,hs4⟩:=HR4.out.gate;obtain ⟨g0,g1,g2,gf⟩:=cells3 hb4;clear hb4 hr4 hn4 hG4 hs4;have lc:=HR4.out.cell;obtain ⟨i5,hi,hz0,hz1,hz2⟩:=dF nU;have HNO:=wB (show ¬ sv.ownBlock=some L from fun e=>by have h1:=HR4.out.new L e;have h2:=HLL.out;have h3:=HN1.out;omega);go_wp2_with (at_builtin;refine et rfl (.tmp 25) (.tmp 26) 30 30 rfl 3 i5 (.int .i64 0) 1 8 Tryz.underlying30 hi hz0 hz1 hz2 rfl sv j (cellsOf bL xs) rfl (HR4.out.own.keep (Keep.alloc (fun _=>False) _ _) (fun _ _=>id)) (.slice (some ⟨w4.heap.size,0,none⟩) 1 1) 1 (bL 0) rfl (Src.lit Tryz.underlying30 1 _ rfl (rN _) _ _ rfl) (by unfold maxLen;omega) (by omega) ?_)
      intro ao2 q2 w5 ho2 hk2 hb2;have HKW:=wB (show Keep (fun k=>sv.ownBlock=some k) w4 w5 from (Keep.alloc (fun _=>False) w4 (.cells #[.int .i64 0] 3)).trans hk2 (fun _ _ h=>h.elim) (fun _ _ h=>h))
      obtain ⟨gb,rfl⟩:∃ gb,ao2=some ⟨gb,0,none⟩:=by
       rcases ho2.2 with ⟨h1,h2⟩ | ⟨gb,cap,h1,_⟩
       · omega
       · cases h1;exact ⟨gb,rfl⟩
      have HHALF:=wB (HR4.out.laid HA.out (by have h1:=HLT.out.1;have h2:=HR4.out.put.keep.size;have h3:=HNN.out;omega) HTH.out HKW.out ho2 (by
       rcases hb2 with h | ⟨gg,h1,h2⟩
       · exact .inl (by rw [←h];rfl)
       · cases h1
         have h3:w4.heap.size+1≤gb:=h2;exact .inr (by omega)))
      have c0:=HKW.out.cell HR4.out.cell HNO.out
      have cf:w5.frozen? ⟨L,a,none⟩=false:=by
       have:=av (HR4.out.put.room a 1 HTH.out) HKW.out HNO.out;have:=(this 0 (by omega)).2;rwa [xB] at this
      have cl:=wK w5 _ c0;clear ho2 hk2 hb2;have HEL:=wB (HHALF.out.elem (fun _=>rfl) rfl);generalize hW6:w5.setCell ⟨L,a,none⟩ (.slice (some ⟨gb,0,none⟩) (j+1) q2)=W6 at *;have HW6:=wB hW6;clear hW6;obtain ⟨bad6,s6',hb6,hr6,hn6,hG6,hs6⟩:=HHALF.out.gate;have e0:=HHALF.out.cell;clear hb6 hr6 hn6 hG6 hs6 g0 g1 g2 gf lc;go_upto_region 5 with fail
      rw [HW6.out];clear c0 cf cl;go_wp2_with fail
      refine (gY W6 g R G gb j (some lj) HHALF.out.gate 0 (by have h:=HEL.out.1;rw [Nat.mul_one] at h;exact h) (by unfold ar;omega) (by have h:=HEL.out.2.1;rw [Nat.mul_one] at h;exact h) (by have h1:=HHALF.out.new;have h2:=HLT.out;have h3:=HN1.out;omega)).mono ?_;rintro e w7 ⟨rfl,hp7⟩;obtain ⟨x7,s7,hr7⟩:=HHALF.out.read HA.out (fun _=>rfl) rfl (by rw [Nat.mul_one];exact hp7);have HR7:=wB hr7;clear hp7 hr7 e0;go_wp2_with fail
      go_roundw
      case rel=>exact wB ⟨j+1,xs++[x7],s7,_,by go_num,hlt,HR7.out⟩
      case measure=>simp [intOf];omega
  · obtain rfl:n=j:=by omega
    have b1:decide ((n:Int)<(n:Int))=false:=decide_eq_false (by omega);have b1':decide (n<n)=false:=decide_eq_false hlt;have HE:=wB (pq hj HR.out HN1.out (.inl rfl));clear hlt;go_wp2_with fail
    exact bodyPost_end (v:=.tuple #[]) (by simp [results,Tryz.results171,go_sem]) rfl ⟨rfl,HE.out⟩
def gj {α β:Type} (p:aW α) (q:α→aW β):aW β:=fun l=>(p l).bind fun x=>q x.1 x.2
theorem Step.bind {α β:Type} {p:aW α} {q:α→aW β} {s s1 s2:Option (List Int)} {a:α} {b:β} (h1:Step p s s1 a) (h2:Step (q a) s1 s2 b):Step (gj p q) s s2 b:=by
 obtain ⟨e1,v1⟩:=h1;obtain ⟨e2,v2⟩:=h2;cases s with
 | none=>subst e1;subst e2;exact Step.none _ _
 | some l=>
   simp only [Option.bind_some] at e1 v1;cases hp:p l with
   | none=>
     rw [hp] at e1;subst e1;subst e2;exact Step.fail (by simp [gj,hp]) _
   | some y=>
     obtain ⟨y,l1⟩:=y;rw [hp] at e1;have ha:=v1 y l1 hp;subst e1 ha;simp only [Option.map_some,Option.bind_some] at e2 v2;cases hq:q a l1 with
     | none=>
       rw [hq] at e2;subst e2;exact Step.fail (by simp [gj,hp,hq]) _
     | some z=>
       obtain ⟨z,l2⟩:=z;rw [hq] at e2;have hb:=v2 z l2 hq;subst e2 hb;exact Step.some (by simp [gj,hp,hq])
def uP {α:Type} (x:α):aW α:=fun l=>some (x,l)
theorem Step.pure {α:Type} (x:α) (s:Option (List Int)):Step (uP x) s s x:=by
 cases s with
 | none=>exact Step.none _ _
 | some l=>exact Step.some rfl
def pt:aW aw:=
 gj (cz em) fun t=>gj (dJ 64 fR) fun ws=>gj (dJ 64 fS) fun ds=>gj (dJ 4096 fU) fun es=>gj (dJ 64 rdPair) fun ps=>
 gj (dm eT ws.length) fun ys=>gj (dm eT ds.length) fun zs=>uP ⟨t,ws,ds,ws.length,ds.length,es,ps,ys,zs⟩
def gk (b:List Int):Option aw:=
 match pt b with
 | some (x,[])=>if bh x=0 then some x else none
 | _=>none
structure LF {α:Type} (N:Nat) (f:α→List Value) (ok:α→Prop) (most:Nat) (xs:List α) (ao:Option Addr) (w:World):Prop where
 len:xs.length≤most
 ok:∀ x ∈ xs,ok x
 rd:RdC w ao (cellsOf f xs)
 new:∀ b o,ao=some ⟨b,o,none⟩→N≤b∧b<w.heap.size
theorem LF.keep {α:Type} {N:Nat} {f:α→List Value} {ok:α→Prop} {most:Nat} {xs:List α} {ao:Option Addr} {w w':World} {X:Nat→Prop} (h:LF N f ok most xs ao w) (hk:Keep X w w') (hx:∀ k,X k→k<N):LF N f ok most xs ao w':=
 ⟨h.len,h.ok,h.rd.keep hk (fun b o e he=>by have h1:=hx b he;have h2:=(h.new b o e).1;omega),fun b o e=>⟨(h.new b o e).1,Nat.lt_of_lt_of_le (h.new b o e).2 hk.size⟩⟩
theorem lS {α:Type} {f:α→List Value} {sz:Nat} {xs:List α} {sv:Value} {w:World} {N:Nat} (ho:Own w sz sv xs.length (cellsOf f xs)) (hn:∀ b,sv.ownBlock=some b→N≤b) :
 ∃ ao cap,sv = .slice ao xs.length cap∧RdC w ao (cellsOf f xs)∧∀ b o,ao=some ⟨b,o,none⟩→N≤b∧b<w.heap.size:=by
 rcases ho.2 with ⟨rfl,h0⟩ | ⟨g,cap,rfl,h1,h2,h3⟩
 · refine ⟨none,0,by rw [h0],.inl ?_,fun b o e=>by cases e⟩
   have:=ho.1;rw [h0,Nat.zero_mul] at this;exact List.eq_nil_of_length_eq_zero this
 · exact ⟨_,cap,rfl,.inr ⟨g,0,rfl,fun j u hu=>by rw [wL];exact h3.cell j u hu⟩,fun b o e=>by cases e;exact ⟨hn _ rfl,h3.lt⟩⟩
theorem lT {w w':World} {g R P a:Nat} {cs:List Value} {v:Value} (h:w.rangeAt P 0 cs) (hp:aq w g R P a 1 w') (hv:w'.cell? ⟨P,a,none⟩=some v):w'.rangeAt P 0 (cs.set a v):=by
 intro j u hu;rw [List.getElem?_set] at hu;split at hu
 · rename_i he
   subst he;split at hu
   · cases hu;rw [wL];exact hv
   · cases hu
 · rename_i hne
   have:=h j u hu;rw [wL] at this ⊢;exact hp.else_ j (by omega) u this
structure cj (w:World) (g R G RB BX:Nat) (s:Option (List Int)) (cs:List Value) (wi:World):Prop where
 gate:GtR wi g R G s
 cells:wi.rangeAt RB 0 cs
 room:wi.there RB 0 9
 box:wi.heap[BX]?=some (.cells #[.pointer (some ⟨g,0,none⟩)] 142 (0,0))
 keep:Keep (fun k=>k=g∨k=R∨k=RB) w wi
 apart:RB≠g∧RB≠R∧RB≠G
 old:g<w.heap.size∧R<w.heap.size∧G<w.heap.size∧RB<w.heap.size∧w.heap.size≤BX
section
variable {w:World} {g R G RB BX:Nat} {s:Option (List Int)} {cs:List Value} {wi:World}
theorem cj.drew (h:cj w g R G RB BX s cs wi):cj w g R G RB BX s cs wi.drew:=
 ⟨h.gate.below (Below.refl _ _).drew,h.cells,h.room,h.box,h.keep.trans (Keep.drew (fun _=>False) wi) (fun _ _ h=>h) (fun _ _ h=>h.elim),h.apart,h.old⟩
theorem cj.box_apart (h:cj w g R G RB BX s cs wi):BX≠g∧BX≠R∧BX≠RB:=by
 have:=h.old;omega
theorem cj.cell (h:cj w g R G RB BX s cs wi) (a:Nat) {v:Value} (hv:cs[a]?=some v):wi.cell? ⟨RB,a,none⟩=some v:=by
 have:=h.cells a v hv;rwa [wL] at this
theorem cj.there (h:cj w g R G RB BX s cs wi) (a:Nat) (ha:a<9):wi.there RB a 1:=by
 have:=aF h.room a 1 (by omega);rwa [wL] at this
theorem cj.put (h:cj w g R G RB BX s cs wi) {a:Nat} {s':Option (List Int)} {v:Value} {w':World} (hg:GtR w' g R G s') (hp:aq wi g R RB a 1 w') (hv:w'.cell? ⟨RB,a,none⟩=some v):cj w g R G RB BX s' (cs.set a v) w':=
 ⟨hg,lT h.cells hp hv,hp.room _ _ h.room,hp.keep.old h.box (by have:=h.old;show ¬ (BX=g∨BX=R∨BX=RB);omega),h.keep.trans hp.keep (fun _ _ h=>h) (fun _ _ h=>h),h.apart,h.old⟩
theorem cj.set (h:cj w g R G RB BX s cs wi) (a:Nat) (ha:a<9) (v:Value):cj w g R G RB BX s (cs.set a v) (wi.setCell ⟨RB,a,none⟩ v):=by
 have hk:=aJ wi RB a v;refine h.put (h.gate.keep hk (fun e=>h.apart.1 e.symm) (fun e=>h.apart.2.1 e.symm) (fun e=>h.apart.2.2 e.symm)) (aq.set wi g R RB a [v]) ?_;have:=World.rangeAt_setCells_same wi RB a [v] (h.there a ha) 0 _ rfl;rwa [xB] at this
theorem cj.nat (h:cj w g R G RB BX s cs wi) {a:Nat} {p:aW Int} {w':World} (hp:aE wi g R G RB a 1 s p (fun x=>[.int .i64 x]) ar w') :
 ∃ x s',ar x∧Step p s s' x∧cj w g R G RB BX s' (cs.set a (.int .i64 x)) w':=by
 obtain ⟨x,s',h1,h2,h3,h4,h5⟩:=hp;exact ⟨x,s',h1,h3,h.put h2 h4 (by have:=h5 0 _ rfl;rwa [xB] at this)⟩
theorem cj.list {α:Type} {p:aW α} {f:α→List Value} {ok:α→Prop} {sz most:Nat} (h:cj w g R G RB BX s cs wi) {a:Nat} {w':World} (hp:kv wi g R G RB a s most p f ok sz w') :
 ∃ xs s' ao cap,Step (dJ most p) s s' xs∧cj w g R G RB BX s' (cs.set a (.slice ao xs.length cap)) w'∧LF w.heap.size f ok most xs ao w':=by
 obtain ⟨xs,s',sv,h1,h2,h3,h4,h5,h6,h7,h8⟩:=hp;obtain ⟨ao,cap,rfl,h9,h10⟩:=lS h7 (fun b hb=>Nat.le_trans h.keep.size (h8 b hb));exact ⟨xs,s',ao,cap,h4,h.put h3 h5 h6,h2,h1,h9,h10⟩
theorem cj.ints (h:cj w g R G RB BX s cs wi) {a n:Nat} {w':World} (hp:pp wi g R G RB a s n w') :
 ∃ xs s' ao cap,Step (dm eT n) s s' xs∧cj w g R G RB BX s' (cs.set a (.slice ao xs.length cap)) w'∧LF w.heap.size bL ar n xs ao w':=by
 obtain ⟨xs,s',sv,h1,h2,h3,h4,h5,h6,h7,h8⟩:=hp;obtain ⟨ao,cap,rfl,h9,h10⟩:=lS h7 (fun b hb=>Nat.le_trans h.keep.size (h8 b hb));exact ⟨xs,s',ao,cap,h4,h.put h3 h5 h6,h2,h1,h9,h10⟩
theorem LF.next {α:Type} {f:α→List Value} {ok:α→Prop} {most:Nat} {xs:List α} {ao:Option Addr} {w':World} (hl:LF w.heap.size f ok most xs ao wi) (h:cj w g R G RB BX s cs wi) (hk:Keep (fun k=>k=g∨k=R∨k=RB) wi w'):LF w.heap.size f ok most xs ao w':=
 hl.keep hk (fun k hk=>by have:=h.old;rcases hk with rfl | rfl | rfl <;> omega)
end
theorem kv.keepOf {α:Type} {w:World} {g R G L a:Nat} {s:Option (List Int)} {most:Nat} {p:aW α} {f:α→List Value} {ok:α→Prop} {sz:Nat} {w':World} (h:kv w g R G L a s most p f ok sz w'):Keep (fun k=>k=g∨k=R∨k=L) w w':=by
 obtain ⟨xs,s',sv,_,_,_,_,h5,_⟩:=h;exact h5.keep
theorem pp.keepOf {w:World} {g R G L a:Nat} {s:Option (List Int)} {n:Nat} {w':World} (h:pp w g R G L a s n w'):Keep (fun k=>k=g∨k=R∨k=L) w w':=by
 obtain ⟨xs,s',sv,_,_,_,_,h5,_⟩:=h;exact h5.keep
def RV.Zone (N M:Nat) (v:RV):Prop:=∀ (X:Nat→Prop) (w w':World),v.In w→Keep X w w'→(∀ k,X k→k<N∨M≤k)→v.In w'
structure RecAt (w:World) (g R G RB:Nat) (s:Option (List Int)) (w':World) (v:RV) (s':Option (List Int)):Prop where
 ins:v.In w'
 gate:GtR w' g R G s'
 step:Step pt s s' v.x
 keep:Keep (fun k=>k=g∨k=R∨k=RB) w w'
 cells:w'.rangeAt RB 0 v.cells
 room:w'.there RB 0 9
 zone:v.Zone w.heap.size w'.heap.size
end Go.Proofs.YtcaicgipibcicaaGreat
