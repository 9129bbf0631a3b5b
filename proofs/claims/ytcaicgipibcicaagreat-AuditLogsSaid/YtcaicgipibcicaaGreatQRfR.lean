/- The reference reads a record: what holds amid a list. -/
import Derived.Test.YtcaicgipibcicaaGreatQRfW
import Derived.Test.YtcaicgipibcicaaGreatQRdR1
import Derived.Test.YtcaicgipibcicaaGreatQRowB
import Derived.Test.YtcaicgipibcicaaGreatQAuRef6
import Derived.Test.YtcaicgipibcicaaGreatQHeldTail
set_option maxRecDepth 100000
set_option maxHeartbeats 32000000
set_option linter.unusedSimpArgs false
set_option linter.unusedVariables false
open Go.Lib renaming hid→yA
open Go.RowKit.Below renaming refl→yH
open List renaming drop_succ_cons→zI,drop_zero→zK,setIfInBounds_toArray→yM,set_cons_succ→yZ,set_cons_zero→yX,take_succ_cons→zH,take_zero→zE
open Nat renaming le_refl→yB,le_trans→yV,zero_add→yO,zero_le→yQ
open Option renaming isSome_iff_exists→zB
namespace Go.Proofs.YtcaicgipibcicaaGreat
open Go.RowKit Go.Sort
structure c8 {α:Type} (w:World) (g G B RB o:Nat) (w1:World) (s:Option (List Int)) (p:bl α) (f:α→List Value) (ok:α→Prop) (sz:Nat) (cs:List Value) (j:Nat) (xs:List α) (sj:Option (List Int)) (sv:Value) (wr:World):Prop where
 len:xs.length=j
 ok:∀ x ∈ xs,ok x
 at_:cN w g G B RB 9 sj (cs.set o sv) wr
 step:Step (d9 p j) s sj xs
 own:Own wr sz sv j (cellsOf f xs)
 new:∀ b,sv.ownBlock=some b→w1.heap.size≤b
 keep:Keep (fun k=>k=g∨k=RB) w1 wr
def nE {α:Type} (w:World) (g G B RB o:Nat) (w1:World) (s:Option (List Int)) (p:bl α) (f:α→List Value) (ok:α→Prop) (most n:Nat) (cs:List Value) (w':World):Prop:=
 ∃ (xs:List α) (sj:Option (List Int)) (ao:Option Addr) (cap:Nat),Step (d9 p n) s sj xs∧cN w g G B RB 9 sj (cs.set o (.slice ao xs.length cap)) w'∧LF w1.heap.size f ok most xs ao w'∧Keep (fun k=>k=g∨k=RB) w1 w'∧(sj≠none→n=xs.length)
section
variable {α:Type} {w:World} {g G B RB o:Nat} {w1:World} {s:Option (List Int)} {p:bl α} {f:α→List Value} {ok:α→Prop} {sz:Nat} {cs:List Value} {j:Nat} {xs:List α} {sj:Option (List Int)} {sv:Value} {wr:World}
theorem c8.begin (h:cN w g G B RB 9 s cs w1) (ho:cs[o]?=some (.slice none 0 0)):c8 w g G B RB o w1 s p f ok sz cs 0 [] s (.slice none 0 0) w1:=
 ⟨rfl,(fun x hx=>by cases hx),by rw [show cs.set o (.slice none 0 0)=cs from by
  obtain ⟨h1,h2⟩:=List.getElem?_eq_some_iff.1 ho;rw [←h2,List.set_getElem_self]];exact h,Step.rep0 _ _,by simpa [cellsOf] using Own.nil _ sz,by simp [Value.ownBlock],Keep.refl _ _⟩
theorem c8.done {n most:Nat} (h:c8 w g G B RB o w1 s p f ok sz cs j xs sj sv wr) (hj:j≤n) (hn:n≤most) (he:j=n∨sj=none):nE w g G B RB o w1 s p f ok most n cs wr:=by
 have hl:=h.len;subst hl;obtain ⟨ao,cap,rfl,h2,h3⟩:=fY h.own h.new;refine ⟨xs,sj,ao,cap,?_,h.at_,⟨by omega,h.ok,h2,h3⟩,h.keep,?_⟩
 · rcases he with rfl | rfl
   · exact h.step
   · exact h.step.repFail hj _
 · intro hne
   rcases he with rfl | rfl
   · rfl
   · exact absurd rfl hne
end
theorem cN.keepX {w wi w':World} {g G B RB N:Nat} {s:Option (List Int)} {cs:List Value} {X:Nat→Prop} (h:cN w g G B RB N s cs wi) (hk:Keep X wi w') (h1:¬ X RB) (h2:¬ X B) (h3:∀ k,X k→w.heap.size≤k):cN w g G B RB N s cs w':=by
 have o2:=h.was;exact ⟨h.gate.keep hk (fun e=>by have:=h3 _ e;omega) (fun e=>by have:=h3 _ e;omega),fun j u hu=>hk.cell (h.cells j u hu) h1,aq h.room hk h1,aq h.box hk h2,h.keep.trans hk (fun _ _ h=>h) (fun i hi he=>by have:=h3 _ he;omega),h.old,o2⟩
theorem sN (cs:List Value) (o:Nat) (u v:Value) (ho:o<cs.length):ic (cs.set o u) o [v]=cs.set o v:=by
 unfold ic;rw [List.set_eq_take_append_cons_drop,List.set_eq_take_append_cons_drop,if_pos ho,if_pos ho];have hl:(cs.take o).length=o:=by rw [List.length_take];omega
 rw [List.take_append_of_le_length (by omega),List.take_take,Nat.min_self]
 have hd:(cs.take o++u::cs.drop (o+1)).drop (o + [v].length)=cs.drop (o+1):=by
  rw [show o + [v].length=(cs.take o).length+1 by rw [hl];rfl,←List.drop_drop,List.drop_left];rfl
 rw [hd];simp
theorem cu.ofDrew {α:Type} {w w':World} {g G:Nat} {s:Option (List Int)} {p:bl α} {x:α} (h:cu w.drew g G s p x w'):cu w g G s p x w':=by
 obtain ⟨s',h1,h2,h3⟩:=h;exact ⟨s',h1,h2,(Keep.drew (fun _=>False) w).trans h3 (fun _ _ h=>h.elim) (fun _ _ h=>h)⟩
theorem c8.next {α:Type} {w:World} {g G B RB o:Nat} {w1:World} {s:Option (List Int)} {p:bl α} {f:α→List Value} {ok:α→Prop} {sz:Nat} {cs:List Value} {j:Nat} {xs:List α} {sj:Option (List Int)} {sv:Value} {wr:World} {x:α} {w3 w5:World} {ao:Option Addr} {cap:Nat}
 (h:c8 w g G B RB o w1 s p f ok sz cs j xs sj sv wr) (hx:ok x) (hr:cu wr g G sj p x w3) (hk:Keep (fun k=>sv.ownBlock=some k) w3 w5) (ho:Own w5 sz (.slice ao (j+1) cap) (j+1) (cellsOf f xs++f x))
 (hb:(Value.slice ao (j+1) cap).ownBlock=sv.ownBlock∨∃ g,(Value.slice ao (j+1) cap).ownBlock=some g∧w3.heap.size≤g) (hN:RB<w1.heap.size∧B<w1.heap.size) (hc:cs.length=9) (ho9:o<9) :
 (w5.cell? ⟨RB,o,none⟩=some sv∧w5.frozen? ⟨RB,o,none⟩=false)∧∃ s',c8 w g G B RB o w1 s p f ok sz cs (j+1) (xs++[x]) s' (.slice ao (j+1) cap) (w5.setCell ⟨RB,o,none⟩ (.slice ao (j+1) cap)):=by
 obtain ⟨s',hst,h3⟩:=h.at_.read hr;obtain ⟨_,_,_,hk3⟩:=hr;have hz:=h.at_.keep.size;have hw1:=h.keep.size;have o1:=h.at_.old;have o2:=h.at_.was;have h5:=h3.keepX hk (fun e=>by have:=h.new _ e;omega) (fun e=>by have:=h.new _ e;omega) (fun k e=>by have:=h.new _ e;omega)
 have hcell:w5.cell? ⟨RB,o,none⟩=some sv:=by
  have:=h5.cells o sv (by rw [List.getElem?_set_self (by omega)]);rwa [yO] at this
 have h6:=h5.put o [.slice ao (j+1) cap] (by simp;omega) (by rw [List.length_set];exact hc);rw [sN _ _ _ _ (by omega)] at h6;refine ⟨⟨hcell,(h5.part o 1 (by omega) 0 (by omega)).2⟩,s',by rw [List.length_append,h.len];rfl,?_,h6,h.step.rep1 hst,?_,?_,?_⟩
 · intro y hy
   rcases List.mem_append.1 hy with hy | hy
   · exact h.ok y hy
   · cases List.mem_singleton.1 hy
     exact hx
 · have hkk:=aS w5 RB o (.slice ao (j+1) cap)
   have:=ho.keep hkk (fun b e he=>by
    have he':b=RB:=he;subst he';rcases hb with hb | ⟨g',hb,hg⟩
    · rw [hb] at e
      have:=h.new _ e;omega
    · rw [hb] at e
      cases e
      have:=hk3.size;omega)
   rwa [show cellsOf f (xs++[x])=cellsOf f xs++f x by simp [cellsOf]]
 · intro b e
   rcases hb with hb | ⟨g',hb,hg⟩
   · rw [hb] at e
     exact h.new b e
   · rw [hb] at e
     cases e
     have:=hk3.size;omega
 · have hkk:=aS w5 RB o (.slice ao (j+1) cap)
   exact ((h.keep.trans hk3 (fun _ _ h=>h) (fun _ _ h=>.inl h)).trans hk (fun _ _ h=>h) (fun k hk' e=>by have:=h.new k e;omega)).trans hkk (fun _ _ h=>h) (fun _ _ h=>.inr h)
theorem Step.anyVal {α:Type} {p:bl α} {s:Option (List Int)} {x:α} (h:Step p s Option.none x) (y:α):Step p s Option.none y:=by
 obtain ⟨h1,h2⟩:=h;refine ⟨h1,fun z l hz=>?_⟩;rw [hz] at h1;cases h1
theorem cu.edge {w2 wb w3:World} {g G:Nat} {s sa sb:Option (List Int)} {xr xc x:Int} (ha:Step (ce cj) s sa xr) (hb:Step (ce cj) sa sb xc) (hk:Keep (fun k=>k=g) w2 wb) (hr:cu wb g G sb (ce cj) x w3):cu w2 g G s eA ⟨xr,xc,x⟩ w3:=by
 obtain ⟨s',h1,h2,h3⟩:=hr;exact ⟨s',h1,(Step.seq (f:=Prod.mk) (Step.seq (f:=Prod.mk) ha hb) h2).map nj eA (fun l=>rfl),hk.trans h3 (fun _ _ h=>h) (fun _ _ h=>h)⟩
theorem cu.pair {w2 wb w3:World} {g G:Nat} {s sa:Option (List Int)} {xr x:Int} (ha:Step (ce cj) s sa xr) (hk:Keep (fun k=>k=g) w2 wb) (hr:cu wb g G sa (ce cj) x w3):cu w2 g G s rdPair ⟨xr,x⟩ w3:=by
 obtain ⟨s',h1,h2,h3⟩:=hr;exact ⟨s',h1,(Step.seq (f:=Prod.mk) ha h2).map nk rdPair (fun l=>rfl),hk.trans h3 (fun _ _ h=>h) (fun _ _ h=>h)⟩
theorem LF.low {α:Type} {N N':Nat} {f:α→List Value} {ok:α→Prop} {most:Nat} {xs:List α} {ao:Option Addr} {w:World} (h:LF N f ok most xs ao w) (hN:N'≤N):LF N' f ok most xs ao w:=
 ⟨h.len,h.ok,h.rd,fun b o e=>⟨yV hN (h.new b o e).1,(h.new b o e).2⟩⟩
def oL (w:World) (g G:Nat) (s:Option (List Int)) (v:RV) (w':World):Prop:=
 ∃ s',Step mn s s' v.x∧GR w' g G s'∧Keep (fun k=>k=g) w w'∧(s'≠none→v.In w'∧v.Zone w.heap.size w'.heap.size)
theorem uP {w w':World} {g G:Nat} {s s':Option (List Int)} {t:Int} {nw nd:Nat} {ws:List ad} {ds:List ak} {es:List ab} {ps:List ag} {ys zs:List Int} {wo ko eo po yo zo:Option Addr} {wc kc ec pc yc zc:Nat} {N:Nat}
 (hg:GR w' g G s') (hk:Keep (fun k=>k=g) w w') (hN:w.heap.size≤N) (ht:ar t) (hst:Step mn s s' ⟨t,ws,ds,ws.length,ds.length,es,ps,ys,zs⟩) (h1:s'≠Option.none→nw=ws.length) (h2:s'≠Option.none→nd=ds.length)
 (hw:LF N ad.cells ad.Ok 64 ws wo w') (hd:LF N ak.cells ak.Ok 64 ds ko w') (he:LF N ab.cells ab.Ok 4096 es eo w') (hp:LF N ag.cells ag.Ok 64 ps po w')
 (hy:LF N aP ar 64 ys yo w') (hz:LF N aP ar 64 zs zo w') :
 oL w g G s ⟨⟨t,ws,ds,nw,nd,es,ps,ys,zs⟩,wo,ws.length,wc,ko,ds.length,kc,eo,es.length,ec,po,ps.length,pc,yo,ys.length,yc,zo,zs.length,zc⟩ w':=by
 cases s' with
 | none=>exact ⟨Option.none,hst.anyVal _,hg,hk,fun h=>absurd rfl h⟩
 | some l=>
   obtain rfl:=h1 (by simp);obtain rfl:=h2 (by simp);have l1:=hw.len;have l2:=hd.len;have l3:=he.len;have l4:=hp.len;have l5:=hy.len;have l6:=hz.len;refine ⟨some l,hst,hg,hk,fun _=>⟨⟨rfl,hw.rd,by show ws.length≤_;omega,rfl,hd.rd,by show ds.length≤_;omega,rfl,he.rd,by show es.length≤_;omega,rfl,hp.rd,by show ps.length≤_;omega,rfl,hy.rd,by show ys.length≤_;omega,rfl,hz.rd,by show zs.length≤_;omega,⟨ht,hw.ok,hd.ok,by show ar (ws.length:Int);unfold ar;omega,by show ar (ds.length:Int);unfold ar;omega,he.ok,hp.ok,hy.ok,hz.ok⟩⟩,?_⟩⟩;intro X w1 w2 hi hk hx
   have ap:∀ (ao:Option Addr),(∀ b o,ao=some ⟨b,o,none⟩→N≤b∧b<w'.heap.size)→∀ b o,ao=some ⟨b,o,none⟩→¬ X b:=fun ao ha b o e hX=>by
    have h1:=ha b o e;have h2:=hx b hX;omega
   exact ⟨hi.wl,hi.wr.keep hk (ap _ hw.new),hi.wb,hi.kl,hi.kr.keep hk (ap _ hd.new),hi.kb,hi.el,hi.er.keep hk (ap _ he.new),hi.eb,hi.pl,hi.pr.keep hk (ap _ hp.new),hi.pb,hi.yl,hi.yr.keep hk (ap _ hy.new),hi.yb,hi.zl,hi.zr.keep hk (ap _ hz.new),hi.zb,hi.ok⟩
theorem sO {s s1 s2 s3 s4 s5 s6 s7:Option (List Int)} {t:Int} {nw nd:Nat} {ws:List ad} {ds:List ak} {es:List ab} {ps:List ag} {ys zs:List Int} (h0:Step (ce cj) s s1 t) (hw:Step (fh 64 dL) s1 s2 ws) (hd:Step (fh 64 d7) s2 s3 ds) (he:Step (fh 4096 eA) s3 s4 es) (hp:Step (fh 64 rdPair) s4 s5 ps)
 (hy:Step (d9 dc nw) s5 s6 ys) (hz:Step (d9 dc nd) s6 s7 zs) (h1:s2≠Option.none→nw=ws.length) (h2:s3≠Option.none→nd=ds.length):Step mn s s7 ⟨t,ws,ds,ws.length,ds.length,es,ps,ys,zs⟩:=by
 have hn:∀ {α:Type} {p:bl α} {s':Option (List Int)} {x:α},Step p Option.none s' x→s'=Option.none:=fun h=>h.1
 have hy':Step (d9 dc ws.length) s5 s6 ys:=by
  by_cases hs:s2=Option.none
  · subst hs
    obtain rfl:=hn hd;obtain rfl:=hn he;obtain rfl:=hn hp;obtain rfl:=hn hy;exact Step.none _ _
  · rw [←h1 hs];exact hy
 have hz':Step (d9 dc ds.length) s6 s7 zs:=by
  by_cases hs:s3=Option.none
  · subst hs
    obtain rfl:=hn he;obtain rfl:=hn hp;obtain rfl:=hn hy;obtain rfl:=hn hz;exact Step.none _ _
  · rw [←h2 hs];exact hz
 exact Step.bind h0 (Step.bind hw (Step.bind hd (Step.bind he (Step.bind hp (Step.bind hy' (Step.bind hz' (Step.pure _ _)))))))
theorem Step.someOf {α:Type} {p:bl α} {s s':Option (List Int)} {x:α} (h:Step p s s' x) (hs:s'≠Option.none):s≠Option.none:=fun e=>hs (by rw [e] at h;exact h.1)
theorem rg (w:World) (g G:Nat) (s:Option (List Int)) (h:GR w g G s) :
 Calls Tryz.prog 150 #[.pointer (some ⟨g,0,none⟩)] w fun e w'=>∃ v:RV,e = .returned (.agg #[.int .i64 v.x.tick,.slice v.wo v.wn v.wc,.slice v.ko v.kn v.kc,.int .i64 v.x.rows,.int .i64 v.x.cols,.slice v.eo v.en v.ec,.slice v.po v.pn v.pc,.slice v.yo v.yn v.yc,.slice v.zo v.zn v.zc])∧oL w g G s v w':=by
 have hk1:=Keep.alloc (fun k=>k=g) w (.cells #[.int .i64 0,.slice none 0 0,.slice none 0 0,.int .i64 0,.int .i64 0,.slice none 0 0,.slice none 0 0,.slice none 0 0,.slice none 0 0] 34);have hk2:=Keep.alloc (fun k=>k=g) (w.alloc (.cells #[.int .i64 0,.slice none 0 0,.slice none 0 0,.int .i64 0,.int .i64 0,.slice none 0 0,.slice none 0 0,.slice none 0 0,.slice none 0 0] 34)) (.cells #[.int .i64 0,.slice none 0 0,.slice none 0 0,.int .i64 0,.int .i64 0,.slice none 0 0,.slice none 0 0,.slice none 0 0,.slice none 0 0] 34);have hk:=hk1.trans hk2 (Z:=fun k=>k=g) (fun _ _ h=>h) (fun _ _ h=>h);have hs1:(w.alloc (.cells #[.int .i64 0,.slice none 0 0,.slice none 0 0,.int .i64 0,.int .i64 0,.slice none 0 0,.slice none 0 0,.slice none 0 0,.slice none 0 0] 34)).heap.size=w.heap.size+1:=by simp
 have hs2:((w.alloc (.cells #[.int .i64 0,.slice none 0 0,.slice none 0 0,.int .i64 0,.int .i64 0,.slice none 0 0,.slice none 0 0,.slice none 0 0,.slice none 0 0] 34)).alloc (.cells #[.int .i64 0,.slice none 0 0,.slice none 0 0,.int .i64 0,.int .i64 0,.slice none 0 0,.slice none 0 0,.slice none 0 0,.slice none 0 0] 34)).heap.size=w.heap.size+2:=by simp
 have hn2:=heap_alloc_new (w.alloc (.cells #[.int .i64 0,.slice none 0 0,.slice none 0 0,.int .i64 0,.int .i64 0,.slice none 0 0,.slice none 0 0,.slice none 0 0,.slice none 0 0] 34)) (.cells #[.int .i64 0,.slice none 0 0,.slice none 0 0,.int .i64 0,.int .i64 0,.slice none 0 0,.slice none 0 0,.slice none 0 0,.slice none 0 0] 34);rw [hs1] at hn2
 have HR0:=yA (show cN w g G w.heap.size (w.heap.size+1) 9 s [.int .i64 0,.slice none 0 0,.slice none 0 0,.int .i64 0,.int .i64 0,.slice none 0 0,.slice none 0 0,.slice none 0 0,.slice none 0 0] ((w.alloc (.cells #[.int .i64 0,.slice none 0 0,.slice none 0 0,.int .i64 0,.int .i64 0,.slice none 0 0,.slice none 0 0,.slice none 0 0,.slice none 0 0] 34)).alloc (.cells #[.int .i64 0,.slice none 0 0,.slice none 0 0,.int .i64 0,.int .i64 0,.slice none 0 0,.slice none 0 0,.slice none 0 0,.slice none 0 0] 34)) from by
  have hb:=((yH w.heap.size w).alloc (yB _) (.cells #[.int .i64 0,.slice none 0 0,.slice none 0 0,.int .i64 0,.int .i64 0,.slice none 0 0,.slice none 0 0,.slice none 0 0,.slice none 0 0] 34)).alloc (by simp) (.cells #[.int .i64 0,.slice none 0 0,.slice none 0 0,.int .i64 0,.int .i64 0,.slice none 0 0,.slice none 0 0,.slice none 0 0,.slice none 0 0] 34);refine ⟨h.below hb,fun j u hu=>?_,aw hn2 (yB 9),aw (hk2.old (heap_alloc_new w _) (by have:=h.lt;omega)) (yB 9),hk,⟨yB _,by omega,by omega⟩,h.lt.1,h.lt.2.1⟩;rw [yO];exact (cell_of_row _ _ _ _ _ (0,0) hn2).trans (by rw [←hu];simp))
 have HSZ0:=yA hs2;clear h hk1 hk2 hk hn2 hs2;go_enter Tryz.func150,Tryz.ntmps150
 go_upto_region 2 with fail
 clear hs1;generalize (w.alloc (.cells #[.int .i64 0,.slice none 0 0,.slice none 0 0,.int .i64 0,.int .i64 0,.slice none 0 0,.slice none 0 0,.slice none 0 0,.slice none 0 0] 34)).alloc (.cells #[.int .i64 0,.slice none 0 0,.slice none 0 0,.int .i64 0,.int .i64 0,.slice none 0 0,.slice none 0 0,.slice none 0 0,.slice none 0 0] 34)=w0 at *;obtain ⟨B,hB⟩:∃ B,w.heap.size=B:=⟨_,rfl⟩;have HBE:=yA hB;rw [hB] at HR0 HSZ0 ⊢;clear hB;go_wp2_with fail
 refine (bL w0 g G s HR0.out.gate cj (by decide)).mono ?_;rintro e v0 ⟨ti,rfl,hok,hr⟩;obtain ⟨s1,hst,hr1⟩:=HR0.out.read hr;have HOT:=yA (ie hok);have HST:=yA hst;have HZ1:=yA (show B+2≤v0.heap.size from by have h1:=HSZ0.out;obtain ⟨_,_,_,h2⟩:=hr;have:=h2.size;omega);have HR1p:=yA (hr1.put 0 [.int .i64 ti] (by simp) rfl);have HTH:=yA (hr1.part 0 1 (by omega));have hfz:v0.frozen? ⟨B+1,0,none⟩=false:=(HTH.out 0 (by simp)).2;obtain ⟨oldc,hoc⟩:=zB.1 (HTH.out 0 (by simp)).1;have hoc:v0.cell? ⟨B+1,0,none⟩=some oldc:=hoc;clear hr hr1 hst hok HR0 HSZ0;go_upto_region 3 with fail
 clear hfz hoc;have HR1:=yA (show cN w g G B (B+1) 9 s1 [.int .i64 ti,.slice none 0 0,.slice none 0 0,.int .i64 0,.int .i64 0,.slice none 0 0,.slice none 0 0,.slice none 0 0,.slice none 0 0] (v0.setCell ⟨B+1,0,none⟩ (.int .i64 ti)) from HR1p.out);have HK1:=yA (Keep.setCells v0 (B+1) 0 [.int .i64 ti]);have HK1:=yA (show Keep (fun k=>k=B+1) v0 (v0.setCell ⟨B+1,0,none⟩ (.int .i64 ti)) from HK1.out);clear HR1p HTH;generalize v0.setCell ⟨B+1,0,none⟩ (.int .i64 ti)=w1 at *;have HZ1:=yA (show B+2≤w1.heap.size from yV HZ1.out HK1.out.size);clear HK1;go_wp2_with fail
 refine (bL w1 g G s1 HR1.out.gate 64 (by decide)).mono ?_;rintro e v1 ⟨cws,rfl,hok,hr⟩;obtain ⟨s1n,hst,hr1⟩:=HR1.out.read hr;have HCws:=yA hok;obtain ⟨nws,hcn⟩:∃ n:Nat,cws=n:=⟨cws.toNat,by omega⟩;subst hcn;have HNws:=yA (show nws≤64 from by have:=hok.2;omega);have HSTN:=yA hst;have HR1n:=yA hr1;have HKN:=yA (show Keep (fun k=>k=g∨k=B+1) w1 v1 from by obtain ⟨_,_,_,h⟩:=hr;exact h.mono (fun _ _ h=>.inl h));have HZ1n:=yA (yV HZ1.out HKN.out.size);clear hok hr hst hr1 HR1 HKN HZ1;go_upto_region 4 with fail
 iterate 7 go_step
 have HBws:=yA (show c8 w g G B (B+1) 1 v1 s1n dL ad.cells ad.Ok 18 [.int .i64 ti,.slice none 0 0,.slice none 0 0,.int .i64 0,.int .i64 0,.slice none 0 0,.slice none 0 0,.slice none 0 0,.slice none 0 0] 0 [] s1n (.slice none 0 0) v1 from c8.begin HR1n.out rfl);clear HR1n;go_cut [] from 17 (fun wx=>Hid (nE w g G B (B+1) 1 v1 s1n dL ad.cells ad.Ok 64 nws [.int .i64 ti,.slice none 0 0,.slice none 0 0,.int .i64 0,.int .i64 0,.slice none 0 0,.slice none 0 0,.slice none 0 0,.slice none 0 0] wx))
 case first=>
  all_goals
   have hn64:nws≤64:=HNws.out;go_wp2_with fail
   go_loopw [5] (fun i wr=>Hid (∃ (j:Nat) (xs:List ad) (sj:Option (List Int)) (sv:Value),i = .int .i64 j∧j≤nws∧c8 w g G B (B+1) 1 v1 s1n dL ad.cells ad.Ok 18 [.int .i64 ti,.slice none 0 0,.slice none 0 0,.int .i64 0,.int .i64 0,.slice none 0 0,.slice none 0 0,.slice none 0 0,.slice none 0 0] j xs sj sv wr)) (fun i _=>nws - (intOf i).toNat)
   case atStart=>exact yA ⟨0,[],s1n,.slice none 0 0,rfl,yQ _,HBws.out⟩
   case round=>
    obtain ⟨j,xs,sj,sv,rfl,hj,hrl⟩:=hrel.out;clear hrel HBws;have HRL:=yA hrl;clear hrl;by_cases hlt:j<nws
    · have b1:decide ((j:Int)<(nws:Int))=true:=decide_eq_true (by omega)
      cases sj with
      | none=>
        go_wp2_with fail
        refine (bK wr g G none HRL.out.at_.gate).mono ?_;rintro e w2 ⟨rfl,rfl⟩;go_wp2_with fail
        go_meet
        case rel=>exact yA (HRL.out.done hj HNws.out (.inr rfl))
      | some lj=>
        go_wp2_with fail
        refine (bK wr g G (some lj) HRL.out.at_.gate).mono ?_;rintro e w2 ⟨rfl,rfl⟩;go_wp2_with fail
        have r5:w2.cell? ⟨B+1,1,none⟩=some sv:=by
         have:=HRL.out.at_.cells 1 sv rfl;rwa [yO] at this
        have HNB:=yA (show ¬ sv.ownBlock=some (B+1) from fun e=>by have h1:=HRL.out.new _ e;have h2:=HZ1n.out;omega);have HSK:=yA (fun (w':World) (k:Keep (fun k=>k=g∨sv.ownBlock=some k) w2 w')=>show w'.cell? ⟨B+1,1,none⟩=some sv from k.cell r5 (fun e=>by rcases e with e | e;have h1:=HRL.out.at_.was;have h2:=HBE.out;have e':B+1=g:=e;omega;exact HNB.out e));clear r5;have HML:=yA (show j+1≤maxLen from by have:=HNws.out;unfold maxLen;omega);have HBYT:=yA (show (j+1)*56≤140737488355328 from by have:=HNws.out;omega);have HNG:=yA (show ∀ b,sv.ownBlock=some b→¬ (fun k=>k=g) b from fun b e he=>by have h1:=HRL.out.new b e;have h2:=HRL.out.at_.was;have h3:=HZ1n.out;have h4:=HBE.out;have hee:b=g:=he;omega);have HG2:=yA (HRL.out.at_.gate.below (yH _ _).drew);have HOW:=yA HRL.out.own;obtain ⟨i5,hi,hz0,hz1,hz2⟩:=cR li;refine bd 3 3 (fun w'=>w'.cell? ⟨B+1,1,none⟩=some sv) (by kernel_rfl) (by kernel_rfl) (fun _ _ _ _ _ h=>h) (HSK.out _ (Keep.drew _ _)) ?_;simp only [zH,zE,zI,zK]
        iterate 3 (
         refine bg (v:=?_) (Or.inl ⟨by rfl,?_⟩) ?_
         rotate_left
         · intro w' hSw
           try dsimp only at hSw
           go_simp
           try with_reducible rfl
         try simp only [Act.put,yM,yX,yZ])
        refine bs ?_;simp only [cF,Nat.reduceAdd];refine aC rfl (fun K hK=>?_);go_simp
        refine (pH w2.drew g G _ HG2.out).mono ?_;rintro e w3 ⟨x,rfl,hok,hr⟩;have HRD:=yA hr.ofDrew;have HOX:=yA hok;have HK3g:=yA (show Keep (fun k=>k=g) w2 w3 from by obtain ⟨_,_,_,h⟩:=hr.ofDrew;exact h);have HK3:=yA (HK3g.out.mono (fun _ _ h=>.inl h):Keep (fun k=>k=g∨sv.ownBlock=some k) w2 w3);clear hr hok;go_simp
        refine hK _ _ ⟨HSK.out _ HK3.out,?_⟩;clear hK K;refine aC rfl (fun K hK=>?_);go_simp
        refine hK _ _ ⟨HSK.out _ (HK3.out.trans (Keep.alloc (fun _=>False) _ _) (fun _ _ h=>h) (fun _ _ h=>h.elim)),?_⟩;clear hK K;refine aC rfl (fun K hK=>?_);have HOA:=yA (HOW.out.keep (HK3g.out.trans (Keep.alloc (fun _=>False) w3 (.cells #[.int .u8 x.r.i0,.int .u8 x.r.i1,.int .u8 x.r.i2,.int .u8 x.r.i3,.int .u8 x.r.i4,.int .u8 x.r.i5,.int .u8 x.r.i6,.int .u8 x.r.i7,.int .i16 x.r.fx,.int .i16 x.r.fy,.int .i16 x.r.tx,.int .i16 x.r.ty,.int .u8 x.r.seats,.int .u8 x.r.classes,.int .i64 x.r.base,.int .i64 x.r.ttl,.int .i64 x.since,.int .i64 x.number] 79)) (Z:=fun k=>k=g) (fun _ _ h=>h) (fun _ _ h=>h.elim)) HNG.out);refine aM rfl (.tmp 33) (.tmp 36) 24 24 rfl 79 i5 _ 18 56 Tryz.underlying24 hi hz0 hz1 hz2 rfl sv j (cellsOf ad.cells xs) (by simp [Act.eval]) HOA.out (.slice (some ⟨w3.heap.size,0,none⟩) 1 1) 1 x.cells (by simp [Act.eval]) (Src.lit Tryz.underlying24 18 _ rfl x.cells_one _ _ (by first | rfl | simp)) HML.out HBYT.out ?_;intro ao2 q2 w5 ho2 hk2 hb2;have HKW:=yA (show Keep (fun k=>sv.ownBlock=some k) w3 w5 from (Keep.alloc (fun _=>False) _ _).trans hk2 (fun _ _ h=>h.elim) (fun _ _ h=>h));refine hK _ _ ⟨HSK.out _ (HK3.out.trans HKW.out (fun _ _ h=>h) (fun _ _ h=>.inr h)),?_⟩;clear hK K;obtain ⟨⟨hc5,hf5⟩,s',hnx⟩:=HRL.out.next HOX.out HRD.out HKW.out ho2 (hb2.imp id (fun ⟨g',h1,h2⟩=>⟨g',h1,yV (by simp) h2⟩)) ⟨by have:=HZ1n.out;omega,by have:=HZ1n.out;omega⟩ rfl (by omega);have HNX:=yA hnx;clear ho2 hk2 hb2 hnx;go_wp2_with fail
        go_roundw
        case rel=>exact yA ⟨j+1,_,s',_,by go_num,hlt,HNX.out⟩
        case measure=>simp [intOf];omega
    · obtain rfl:nws=j:=by omega
      have b1:decide ((nws:Int)<(nws:Int))=false:=decide_eq_false (by omega);go_wp2_with fail
      go_meet
      case rel=>exact yA (HRL.out.done (yB _) HNws.out (.inl rfl))
 case rest=>
 obtain ⟨ws,s2,wso,wsc,hst,hrk,hlf,hkp,hne⟩:=hcut.out;clear hcut HBws;have HSws:=yA (Step.list HSTN.out hst);have HEws:=yA hne;have HR2:=yA (show cN w g G B (B+1) 9 s2 [.int .i64 ti,.slice wso ws.length wsc,.slice none 0 0,.int .i64 0,.int .i64 0,.slice none 0 0,.slice none 0 0,.slice none 0 0,.slice none 0 0] wc from hrk);have HZ2:=yA (yV HZ1n.out hkp.size);have HXB:=yA (fun (k:Nat) (hk:k=g∨k=B+1)=>show k<B+2 from by have h1:=HR2.out.was;have h2:=HBE.out;omega);have HLws:=yA (hlf.low HZ1n.out);clear hst hrk hlf hkp hne HXB HZ1n HSTN;obtain ⟨w2,hwc⟩:∃ W,wc=W:=⟨_,rfl⟩;rw [hwc] at HR2 HZ2 HLws  ⊢;clear hwc wc;go_wp2_with fail
 refine (bL w2 g G s2 HR2.out.gate 64 (by decide)).mono ?_;rintro e v2 ⟨cds,rfl,hok,hr⟩;obtain ⟨s2n,hst,hr1⟩:=HR2.out.read hr;have HCds:=yA hok;obtain ⟨nds,hcn⟩:∃ n:Nat,cds=n:=⟨cds.toNat,by omega⟩;subst hcn;have HNds:=yA (show nds≤64 from by have:=hok.2;omega);have HSTN:=yA hst;have HR2n:=yA hr1;have HKN:=yA (show Keep (fun k=>k=g∨k=B+1) w2 v2 from by obtain ⟨_,_,_,h⟩:=hr;exact h.mono (fun _ _ h=>.inl h));replace HLws:=yA (HLws.out.keep HKN.out (fun k hk=>by have h1:=HR2.out.was;have h2:=HBE.out;omega));have HZ2n:=yA (yV HZ2.out HKN.out.size);clear hok hr hst hr1 HR2 HKN HZ2;go_upto_region 9 with fail
 iterate 7 go_step
 have HBds:=yA (show c8 w g G B (B+1) 2 v2 s2n d7 ak.cells ak.Ok 14 [.int .i64 ti,.slice wso ws.length wsc,.slice none 0 0,.int .i64 0,.int .i64 0,.slice none 0 0,.slice none 0 0,.slice none 0 0,.slice none 0 0] 0 [] s2n (.slice none 0 0) v2 from c8.begin HR2n.out rfl);clear HR2n;go_cut [] from 17 (fun wx=>Hid (nE w g G B (B+1) 2 v2 s2n d7 ak.cells ak.Ok 64 nds [.int .i64 ti,.slice wso ws.length wsc,.slice none 0 0,.int .i64 0,.int .i64 0,.slice none 0 0,.slice none 0 0,.slice none 0 0,.slice none 0 0] wx))
 case first=>
  all_goals
   have hn64:nds≤64:=HNds.out;go_wp2_with fail
   go_loopw [7] (fun i wr=>Hid (∃ (j:Nat) (xs:List ak) (sj:Option (List Int)) (sv:Value),i = .int .i64 j∧j≤nds∧c8 w g G B (B+1) 2 v2 s2n d7 ak.cells ak.Ok 14 [.int .i64 ti,.slice wso ws.length wsc,.slice none 0 0,.int .i64 0,.int .i64 0,.slice none 0 0,.slice none 0 0,.slice none 0 0,.slice none 0 0] j xs sj sv wr)) (fun i _=>nds - (intOf i).toNat)
   case atStart=>exact yA ⟨0,[],s2n,.slice none 0 0,rfl,yQ _,HBds.out⟩
   case round=>
    obtain ⟨j,xs,sj,sv,rfl,hj,hrl⟩:=hrel.out;clear hrel HBds;have HRL:=yA hrl;clear hrl;by_cases hlt:j<nds
    · have b1:decide ((j:Int)<(nds:Int))=true:=decide_eq_true (by omega)
      cases sj with
      | none=>
        go_wp2_with fail
        refine (bK wr g G none HRL.out.at_.gate).mono ?_;rintro e w2 ⟨rfl,rfl⟩;go_wp2_with fail
        go_meet
        case rel=>exact yA (HRL.out.done hj HNds.out (.inr rfl))
      | some lj=>
        go_wp2_with fail
        refine (bK wr g G (some lj) HRL.out.at_.gate).mono ?_;rintro e w2 ⟨rfl,rfl⟩;go_wp2_with fail
        have r5:w2.cell? ⟨B+1,2,none⟩=some sv:=by
         have:=HRL.out.at_.cells 2 sv rfl;rwa [yO] at this
        have HNB:=yA (show ¬ sv.ownBlock=some (B+1) from fun e=>by have h1:=HRL.out.new _ e;have h2:=HZ2n.out;omega);have HSK:=yA (fun (w':World) (k:Keep (fun k=>k=g∨sv.ownBlock=some k) w2 w')=>show w'.cell? ⟨B+1,2,none⟩=some sv from k.cell r5 (fun e=>by rcases e with e | e;have h1:=HRL.out.at_.was;have h2:=HBE.out;have e':B+1=g:=e;omega;exact HNB.out e));clear r5;have HML:=yA (show j+1≤maxLen from by have:=HNds.out;unfold maxLen;omega);have HBYT:=yA (show (j+1)*32≤140737488355328 from by have:=HNds.out;omega);have HNG:=yA (show ∀ b,sv.ownBlock=some b→¬ (fun k=>k=g) b from fun b e he=>by have h1:=HRL.out.new b e;have h2:=HRL.out.at_.was;have h3:=HZ2n.out;have h4:=HBE.out;have hee:b=g:=he;omega);have HG2:=yA (HRL.out.at_.gate.below (yH _ _).drew);have HOW:=yA HRL.out.own;obtain ⟨i5,hi,hz0,hz1,hz2⟩:=cR lk;refine bd 3 3 (fun w'=>w'.cell? ⟨B+1,2,none⟩=some sv) (by kernel_rfl) (by kernel_rfl) (fun _ _ _ _ _ h=>h) (HSK.out _ (Keep.drew _ _)) ?_;simp only [zH,zE,zI,zK]
        iterate 3 (
         refine bg (v:=?_) (Or.inl ⟨by rfl,?_⟩) ?_
         rotate_left
         · intro w' hSw
           try dsimp only at hSw
           go_simp
           try with_reducible rfl
         try simp only [Act.put,yM,yX,yZ])
        refine bs ?_;simp only [cF,Nat.reduceAdd];refine aC rfl (fun K hK=>?_);go_simp
        refine (uU w2.drew g G _ HG2.out).mono ?_;rintro e w3 ⟨x,rfl,hok,hr⟩;have HRD:=yA hr.ofDrew;have HOX:=yA hok;have HK3g:=yA (show Keep (fun k=>k=g) w2 w3 from by obtain ⟨_,_,_,h⟩:=hr.ofDrew;exact h);have HK3:=yA (HK3g.out.mono (fun _ _ h=>.inl h):Keep (fun k=>k=g∨sv.ownBlock=some k) w2 w3);clear hr hok;go_simp
        refine hK _ _ ⟨HSK.out _ HK3.out,?_⟩;clear hK K;refine aC rfl (fun K hK=>?_);go_simp
        refine hK _ _ ⟨HSK.out _ (HK3.out.trans (Keep.alloc (fun _=>False) _ _) (fun _ _ h=>h) (fun _ _ h=>h.elim)),?_⟩;clear hK K;refine aC rfl (fun K hK=>?_);have HOA:=yA (HOW.out.keep (HK3g.out.trans (Keep.alloc (fun _=>False) w3 (.cells #[.int .u8 x.d.i0,.int .u8 x.d.i1,.int .u8 x.d.i2,.int .u8 x.d.i3,.int .u8 x.d.i4,.int .u8 x.d.i5,.int .u8 x.d.i6,.int .u8 x.d.i7,.int .i16 x.d.ax,.int .i16 x.d.ay,.int .u8 x.d.seats,.int .u8 x.d.cls,.int .i64 x.d.radius,.int .i64 x.number] 83)) (Z:=fun k=>k=g) (fun _ _ h=>h) (fun _ _ h=>h.elim)) HNG.out);refine aM rfl (.tmp 52) (.tmp 55) 25 25 rfl 83 i5 _ 14 32 Tryz.underlying25 hi hz0 hz1 hz2 rfl sv j (cellsOf ak.cells xs) (by simp [Act.eval]) HOA.out (.slice (some ⟨w3.heap.size,0,none⟩) 1 1) 1 x.cells (by simp [Act.eval]) (Src.lit Tryz.underlying25 14 _ rfl x.cells_one _ _ (by first | rfl | simp)) HML.out HBYT.out ?_;intro ao2 q2 w5 ho2 hk2 hb2;have HKW:=yA (show Keep (fun k=>sv.ownBlock=some k) w3 w5 from (Keep.alloc (fun _=>False) _ _).trans hk2 (fun _ _ h=>h.elim) (fun _ _ h=>h));refine hK _ _ ⟨HSK.out _ (HK3.out.trans HKW.out (fun _ _ h=>h) (fun _ _ h=>.inr h)),?_⟩;clear hK K;obtain ⟨⟨hc5,hf5⟩,s',hnx⟩:=HRL.out.next HOX.out HRD.out HKW.out ho2 (hb2.imp id (fun ⟨g',h1,h2⟩=>⟨g',h1,yV (by simp) h2⟩)) ⟨by have:=HZ2n.out;omega,by have:=HZ2n.out;omega⟩ rfl (by omega);have HNX:=yA hnx;clear ho2 hk2 hb2 hnx;go_wp2_with fail
        go_roundw
        case rel=>exact yA ⟨j+1,_,s',_,by go_num,hlt,HNX.out⟩
        case measure=>simp [intOf];omega
    · obtain rfl:nds=j:=by omega
      have b1:decide ((nds:Int)<(nds:Int))=false:=decide_eq_false (by omega);go_wp2_with fail
      go_meet
      case rel=>exact yA (HRL.out.done (yB _) HNds.out (.inl rfl))
 case rest=>
 obtain ⟨ds,s3,dso,dsc,hst,hrk,hlf,hkp,hne⟩:=hcut.out;clear hcut HBds;have HSds:=yA (Step.list HSTN.out hst);have HEds:=yA hne;have HR3:=yA (show cN w g G B (B+1) 9 s3 [.int .i64 ti,.slice wso ws.length wsc,.slice dso ds.length dsc,.int .i64 0,.int .i64 0,.slice none 0 0,.slice none 0 0,.slice none 0 0,.slice none 0 0] wc from hrk);have HZ3:=yA (yV HZ2n.out hkp.size);have HXB:=yA (fun (k:Nat) (hk:k=g∨k=B+1)=>show k<B+2 from by have h1:=HR3.out.was;have h2:=HBE.out;omega);replace HLws:=yA (HLws.out.keep hkp HXB.out);have HLds:=yA (hlf.low HZ2n.out);clear hst hrk hlf hkp hne HXB HZ2n HSTN;obtain ⟨w3,hwc⟩:∃ W,wc=W:=⟨_,rfl⟩;rw [hwc] at HR3 HZ3 HLds HLws ⊢;clear hwc wc
 skip
 have HR4p:=yA (HR3.out.put 3 [.int .i64 nws] (by simp) rfl);have HTH:=yA (HR3.out.part 3 1 (by omega));have hfz:w3.frozen? ⟨B+1,3,none⟩=false:=(HTH.out 0 (by simp)).2;obtain ⟨oldc,hoc⟩:=zB.1 (HTH.out 0 (by simp)).1;have hoc:w3.cell? ⟨B+1,3,none⟩=some oldc:=hoc;go_upto_region 14 with fail
 clear hfz hoc;have HR4:=yA (show cN w g G B (B+1) 9 s3 [.int .i64 ti,.slice wso ws.length wsc,.slice dso ds.length dsc,.int .i64 nws,.int .i64 0,.slice none 0 0,.slice none 0 0,.slice none 0 0,.slice none 0 0] (w3.setCell ⟨B+1,3,none⟩ (.int .i64 nws)) from HR4p.out);have HK4:=yA (Keep.setCells w3 (B+1) 3 [.int .i64 nws]);have HK4:=yA (show Keep (fun k=>k=B+1) w3 (w3.setCell ⟨B+1,3,none⟩ (.int .i64 nws)) from HK4.out);clear HR4p HTH;generalize w3.setCell ⟨B+1,3,none⟩ (.int .i64 nws)=w4 at *;have HZ4:=yA (yV HZ3.out HK4.out.size);replace HLws:=yA (HLws.out.keep HK4.out (fun k hk=>by omega));replace HLds:=yA (HLds.out.keep HK4.out (fun k hk=>by omega));clear HR3 HK4 HZ3
 skip
 have HR5p:=yA (HR4.out.put 4 [.int .i64 nds] (by simp) rfl);have HTH:=yA (HR4.out.part 4 1 (by omega));have hfz:w4.frozen? ⟨B+1,4,none⟩=false:=(HTH.out 0 (by simp)).2;obtain ⟨oldc,hoc⟩:=zB.1 (HTH.out 0 (by simp)).1;have hoc:w4.cell? ⟨B+1,4,none⟩=some oldc:=hoc;go_upto_region 15 with fail
 clear hfz hoc;have HR5:=yA (show cN w g G B (B+1) 9 s3 [.int .i64 ti,.slice wso ws.length wsc,.slice dso ds.length dsc,.int .i64 nws,.int .i64 nds,.slice none 0 0,.slice none 0 0,.slice none 0 0,.slice none 0 0] (w4.setCell ⟨B+1,4,none⟩ (.int .i64 nds)) from HR5p.out);have HK5:=yA (Keep.setCells w4 (B+1) 4 [.int .i64 nds]);have HK5:=yA (show Keep (fun k=>k=B+1) w4 (w4.setCell ⟨B+1,4,none⟩ (.int .i64 nds)) from HK5.out);clear HR5p HTH;generalize w4.setCell ⟨B+1,4,none⟩ (.int .i64 nds)=w5 at *;have HZ5:=yA (yV HZ4.out HK5.out.size);replace HLws:=yA (HLws.out.keep HK5.out (fun k hk=>by omega));replace HLds:=yA (HLds.out.keep HK5.out (fun k hk=>by omega));clear HR4 HK5 HZ4;go_wp2_with fail
 refine (bL w5 g G s3 HR5.out.gate 4096 (by decide)).mono ?_;rintro e v5 ⟨ces,rfl,hok,hr⟩;obtain ⟨s5n,hst,hr1⟩:=HR5.out.read hr;have HCes:=yA hok;obtain ⟨nes,hcn⟩:∃ n:Nat,ces=n:=⟨ces.toNat,by omega⟩;subst hcn;have HNes:=yA (show nes≤4096 from by have:=hok.2;omega);have HSTN:=yA hst;have HR5n:=yA hr1;have HKN:=yA (show Keep (fun k=>k=g∨k=B+1) w5 v5 from by obtain ⟨_,_,_,h⟩:=hr;exact h.mono (fun _ _ h=>.inl h));replace HLws:=yA (HLws.out.keep HKN.out (fun k hk=>by have h1:=HR5.out.was;have h2:=HBE.out;omega));replace HLds:=yA (HLds.out.keep HKN.out (fun k hk=>by have h1:=HR5.out.was;have h2:=HBE.out;omega));have HZ5n:=yA (yV HZ5.out HKN.out.size);clear hok hr hst hr1 HR5 HKN HZ5;go_upto_region 16 with fail
 iterate 7 go_step
 have HBes:=yA (show c8 w g G B (B+1) 5 v5 s5n eA ab.cells ab.Ok 3 [.int .i64 ti,.slice wso ws.length wsc,.slice dso ds.length dsc,.int .i64 nws,.int .i64 nds,.slice none 0 0,.slice none 0 0,.slice none 0 0,.slice none 0 0] 0 [] s5n (.slice none 0 0) v5 from c8.begin HR5n.out rfl);clear HR5n;go_cut [] from 17 (fun wx=>Hid (nE w g G B (B+1) 5 v5 s5n eA ab.cells ab.Ok 4096 nes [.int .i64 ti,.slice wso ws.length wsc,.slice dso ds.length dsc,.int .i64 nws,.int .i64 nds,.slice none 0 0,.slice none 0 0,.slice none 0 0,.slice none 0 0] wx))
 case first=>
  all_goals
   have hn64:nes≤4096:=HNes.out;go_wp2_with fail
   go_loopw [9] (fun i wr=>Hid (∃ (j:Nat) (xs:List ab) (sj:Option (List Int)) (sv:Value),i = .int .i64 j∧j≤nes∧c8 w g G B (B+1) 5 v5 s5n eA ab.cells ab.Ok 3 [.int .i64 ti,.slice wso ws.length wsc,.slice dso ds.length dsc,.int .i64 nws,.int .i64 nds,.slice none 0 0,.slice none 0 0,.slice none 0 0,.slice none 0 0] j xs sj sv wr)) (fun i _=>nes - (intOf i).toNat)
   case atStart=>exact yA ⟨0,[],s5n,.slice none 0 0,rfl,yQ _,HBes.out⟩
   case round=>
    obtain ⟨j,xs,sj,sv,rfl,hj,hrl⟩:=hrel.out;clear hrel HBes;have HRL:=yA hrl;clear hrl;by_cases hlt:j<nes
    · have b1:decide ((j:Int)<(nes:Int))=true:=decide_eq_true (by omega)
      cases sj with
      | none=>
        go_wp2_with fail
        refine (bK wr g G none HRL.out.at_.gate).mono ?_;rintro e w2 ⟨rfl,rfl⟩;go_wp2_with fail
        go_meet
        case rel=>exact yA (HRL.out.done hj HNes.out (.inr rfl))
      | some lj=>
        go_wp2_with fail
        refine (bK wr g G (some lj) HRL.out.at_.gate).mono ?_;rintro e w2 ⟨rfl,rfl⟩;go_wp2_with fail
        refine (bL w2 g G _ HRL.out.at_.gate cj (by decide)).mono ?_;rintro e wa ⟨xr,rfl,hok,sa,hga,hsa,hka⟩;have HXR:=yA (ie hok);have HGA:=yA hga;have HSA:=yA hsa;have HKA:=yA hka;clear hok hga hsa hka;go_wp2_with fail
        refine (bL wa g G _ HGA.out cj (by decide)).mono ?_;rintro e wb ⟨xc,rfl,hok,sb,hgb,hsb,hkb⟩;have HXC:=yA (ie hok);have HGB:=yA hgb;have HSB:=yA hsb;have HRQ:=yA (HKA.out.trans hkb (Z:=fun k=>k=g) (fun _ _ h=>h) (fun _ _ h=>h));clear hok hgb hsb hkb;go_wp2_with fail
        have HRP:=yA (fun (w3:World) (x:Int) (hr:cu wb g G sb (ce cj) x w3)=>cu.edge HSA.out HSB.out HRQ.out hr)
        have r5:w2.cell? ⟨B+1,5,none⟩=some sv:=by
         have:=HRL.out.at_.cells 5 sv rfl;rwa [yO] at this
        have HNB:=yA (show ¬ sv.ownBlock=some (B+1) from fun e=>by have h1:=HRL.out.new _ e;have h2:=HZ5n.out;omega);have HSK:=yA (fun (w':World) (k:Keep (fun k=>k=g∨sv.ownBlock=some k) w2 w')=>show w'.cell? ⟨B+1,5,none⟩=some sv from k.cell r5 (fun e=>by rcases e with e | e;have h1:=HRL.out.at_.was;have h2:=HBE.out;have e':B+1=g:=e;omega;exact HNB.out e));clear r5;have HML:=yA (show j+1≤maxLen from by have:=HNes.out;unfold maxLen;omega);have HBYT:=yA (show (j+1)*24≤140737488355328 from by have:=HNes.out;omega);have HNG:=yA (show ∀ b,sv.ownBlock=some b→¬ (fun k=>k=g) b from fun b e he=>by have h1:=HRL.out.new b e;have h2:=HRL.out.at_.was;have h3:=HZ5n.out;have h4:=HBE.out;have hee:b=g:=he;omega);have HG2:=yA (HGB.out.below (yH _ _).drew);have HOW:=yA HRL.out.own;obtain ⟨i5,hi,hz0,hz1,hz2⟩:=cR gH;refine bd 6 4 (fun w'=>w'.cell? ⟨B+1,5,none⟩=some sv) (by kernel_rfl) (by kernel_rfl) (fun _ _ _ _ _ h=>h) (HSK.out _ ((HRQ.out.trans (Keep.drew (fun k=>k=g) _) (fun _ _ h=>h) (fun _ _ h=>h):Keep (fun k=>k=g) w2 wb.drew).mono (fun _ _ h=>.inl h))) ?_;simp only [zH,zE,zI,zK]
        iterate 6 (
         refine bg (v:=?_) (Or.inl ⟨by rfl,?_⟩) ?_
         rotate_left
         · intro w' hSw
           try dsimp only at hSw
           go_simp
           try with_reducible rfl
         try simp only [Act.put,yM,yX,yZ])
        refine bs ?_;simp only [cF,Nat.reduceAdd];refine aC rfl (fun K hK=>?_);go_simp
        refine (bL wb.drew g G _ HG2.out cj (by decide)).mono ?_;rintro e w3 ⟨x,rfl,hok,hr⟩;have HRD:=yA (HRP.out _ _ hr.ofDrew);have HOX:=yA (show (⟨xr,xc,x⟩:ab).Ok from ⟨HXR.out,HXC.out,ie hok⟩);have HK3g:=yA (show Keep (fun k=>k=g) w2 w3 from by obtain ⟨_,_,_,h⟩:=hr.ofDrew;exact HRQ.out.trans h (fun _ _ h=>h) (fun _ _ h=>h));have HK3:=yA (HK3g.out.mono (fun _ _ h=>.inl h):Keep (fun k=>k=g∨sv.ownBlock=some k) w2 w3);clear hr hok;go_simp
        refine hK _ _ ⟨HSK.out _ HK3.out,?_⟩;clear hK K;refine aC rfl (fun K hK=>?_);go_simp
        refine hK _ _ ⟨HSK.out _ HK3.out,?_⟩;clear hK K;refine aC rfl (fun K hK=>?_);go_simp
        refine hK _ _ ⟨HSK.out _ (HK3.out.trans (Keep.alloc (fun _=>False) _ _) (fun _ _ h=>h) (fun _ _ h=>h.elim)),?_⟩;clear hK K;refine aC rfl (fun K hK=>?_);have HOA:=yA (HOW.out.keep (HK3g.out.trans (Keep.alloc (fun _=>False) w3 (.cells #[.int .i64 xr,.int .i64 xc,.int .i64 x] 114)) (Z:=fun k=>k=g) (fun _ _ h=>h) (fun _ _ h=>h.elim)) HNG.out);refine aM rfl (.tmp 82) (.tmp 88) 26 26 rfl 114 i5 _ 3 24 Tryz.underlying26 hi hz0 hz1 hz2 rfl sv j (cellsOf ab.cells xs) (by simp [Act.eval]) HOA.out (.slice (some ⟨w3.heap.size,0,none⟩) 1 1) 1 (ab.cells ⟨xr,xc,x⟩) (by simp [Act.eval]) (Src.lit Tryz.underlying26 3 _ rfl (ab.cells_one ⟨xr,xc,x⟩) _ _ (by first | rfl | simp)) HML.out HBYT.out ?_;intro ao2 q2 w5 ho2 hk2 hb2;have HKW:=yA (show Keep (fun k=>sv.ownBlock=some k) w3 w5 from (Keep.alloc (fun _=>False) _ _).trans hk2 (fun _ _ h=>h.elim) (fun _ _ h=>h));refine hK _ _ ⟨HSK.out _ (HK3.out.trans HKW.out (fun _ _ h=>h) (fun _ _ h=>.inr h)),?_⟩;clear hK K;obtain ⟨⟨hc5,hf5⟩,s',hnx⟩:=HRL.out.next HOX.out HRD.out HKW.out ho2 (hb2.imp id (fun ⟨g',h1,h2⟩=>⟨g',h1,yV (by simp) h2⟩)) ⟨by have:=HZ5n.out;omega,by have:=HZ5n.out;omega⟩ rfl (by omega);have HNX:=yA hnx;clear ho2 hk2 hb2 hnx;go_wp2_with fail
        go_roundw
        case rel=>exact yA ⟨j+1,_,s',_,by go_num,hlt,HNX.out⟩
        case measure=>simp [intOf];omega
    · obtain rfl:nes=j:=by omega
      have b1:decide ((nes:Int)<(nes:Int))=false:=decide_eq_false (by omega);go_wp2_with fail
      go_meet
      case rel=>exact yA (HRL.out.done (yB _) HNes.out (.inl rfl))
 case rest=>
 obtain ⟨es,s6,eso,esc,hst,hrk,hlf,hkp,hne⟩:=hcut.out;clear hcut HBes;have HSes:=yA (Step.list HSTN.out hst);have HEes:=yA hne;have HR6:=yA (show cN w g G B (B+1) 9 s6 [.int .i64 ti,.slice wso ws.length wsc,.slice dso ds.length dsc,.int .i64 nws,.int .i64 nds,.slice eso es.length esc,.slice none 0 0,.slice none 0 0,.slice none 0 0] wc from hrk);have HZ6:=yA (yV HZ5n.out hkp.size);have HXB:=yA (fun (k:Nat) (hk:k=g∨k=B+1)=>show k<B+2 from by have h1:=HR6.out.was;have h2:=HBE.out;omega);replace HLws:=yA (HLws.out.keep hkp HXB.out);replace HLds:=yA (HLds.out.keep hkp HXB.out);have HLes:=yA (hlf.low HZ5n.out);clear hst hrk hlf hkp hne HXB HZ5n HSTN;obtain ⟨w6,hwc⟩:∃ W,wc=W:=⟨_,rfl⟩;rw [hwc] at HR6 HZ6 HLes HLws HLds ⊢;clear hwc wc;go_wp2_with fail
 refine (bL w6 g G s6 HR6.out.gate 64 (by decide)).mono ?_;rintro e v6 ⟨cps,rfl,hok,hr⟩;obtain ⟨s6n,hst,hr1⟩:=HR6.out.read hr;have HCps:=yA hok;obtain ⟨nps,hcn⟩:∃ n:Nat,cps=n:=⟨cps.toNat,by omega⟩;subst hcn;have HNps:=yA (show nps≤64 from by have:=hok.2;omega);have HSTN:=yA hst;have HR6n:=yA hr1;have HKN:=yA (show Keep (fun k=>k=g∨k=B+1) w6 v6 from by obtain ⟨_,_,_,h⟩:=hr;exact h.mono (fun _ _ h=>.inl h));replace HLws:=yA (HLws.out.keep HKN.out (fun k hk=>by have h1:=HR6.out.was;have h2:=HBE.out;omega));replace HLds:=yA (HLds.out.keep HKN.out (fun k hk=>by have h1:=HR6.out.was;have h2:=HBE.out;omega));replace HLes:=yA (HLes.out.keep HKN.out (fun k hk=>by have h1:=HR6.out.was;have h2:=HBE.out;omega));have HZ6n:=yA (yV HZ6.out HKN.out.size);clear hok hr hst hr1 HR6 HKN HZ6;go_upto_region 23 with fail
 iterate 7 go_step
 have HBps:=yA (show c8 w g G B (B+1) 6 v6 s6n rdPair ag.cells ag.Ok 2 [.int .i64 ti,.slice wso ws.length wsc,.slice dso ds.length dsc,.int .i64 nws,.int .i64 nds,.slice eso es.length esc,.slice none 0 0,.slice none 0 0,.slice none 0 0] 0 [] s6n (.slice none 0 0) v6 from c8.begin HR6n.out rfl);clear HR6n;go_cut [] from 17 (fun wx=>Hid (nE w g G B (B+1) 6 v6 s6n rdPair ag.cells ag.Ok 64 nps [.int .i64 ti,.slice wso ws.length wsc,.slice dso ds.length dsc,.int .i64 nws,.int .i64 nds,.slice eso es.length esc,.slice none 0 0,.slice none 0 0,.slice none 0 0] wx))
 case first=>
  all_goals
   have hn64:nps≤64:=HNps.out;go_wp2_with fail
   go_loopw [13] (fun i wr=>Hid (∃ (j:Nat) (xs:List ag) (sj:Option (List Int)) (sv:Value),i = .int .i64 j∧j≤nps∧c8 w g G B (B+1) 6 v6 s6n rdPair ag.cells ag.Ok 2 [.int .i64 ti,.slice wso ws.length wsc,.slice dso ds.length dsc,.int .i64 nws,.int .i64 nds,.slice eso es.length esc,.slice none 0 0,.slice none 0 0,.slice none 0 0] j xs sj sv wr)) (fun i _=>nps - (intOf i).toNat)
   case atStart=>exact yA ⟨0,[],s6n,.slice none 0 0,rfl,yQ _,HBps.out⟩
   case round=>
    obtain ⟨j,xs,sj,sv,rfl,hj,hrl⟩:=hrel.out;clear hrel HBps;have HRL:=yA hrl;clear hrl;by_cases hlt:j<nps
    · have b1:decide ((j:Int)<(nps:Int))=true:=decide_eq_true (by omega)
      cases sj with
      | none=>
        go_wp2_with fail
        refine (bK wr g G none HRL.out.at_.gate).mono ?_;rintro e w2 ⟨rfl,rfl⟩;go_wp2_with fail
        go_meet
        case rel=>exact yA (HRL.out.done hj HNps.out (.inr rfl))
      | some lj=>
        go_wp2_with fail
        refine (bK wr g G (some lj) HRL.out.at_.gate).mono ?_;rintro e w2 ⟨rfl,rfl⟩;go_wp2_with fail
        refine (bL w2 g G _ HRL.out.at_.gate cj (by decide)).mono ?_;rintro e wa ⟨xr,rfl,hok,sa,hga,hsa,hka⟩;have HXR:=yA (ie hok);have HGA:=yA hga;have HSA:=yA hsa;have HKA:=yA hka;clear hok hga hsa hka;go_wp2_with fail
        have HRQ:=HKA;have HRP:=yA (fun (w3:World) (x:Int) (hr:cu wa g G sa (ce cj) x w3)=>cu.pair HSA.out HRQ.out hr)
        have r5:w2.cell? ⟨B+1,6,none⟩=some sv:=by
         have:=HRL.out.at_.cells 6 sv rfl;rwa [yO] at this
        have HNB:=yA (show ¬ sv.ownBlock=some (B+1) from fun e=>by have h1:=HRL.out.new _ e;have h2:=HZ6n.out;omega);have HSK:=yA (fun (w':World) (k:Keep (fun k=>k=g∨sv.ownBlock=some k) w2 w')=>show w'.cell? ⟨B+1,6,none⟩=some sv from k.cell r5 (fun e=>by rcases e with e | e;have h1:=HRL.out.at_.was;have h2:=HBE.out;have e':B+1=g:=e;omega;exact HNB.out e));clear r5;have HML:=yA (show j+1≤maxLen from by have:=HNps.out;unfold maxLen;omega);have HBYT:=yA (show (j+1)*16≤140737488355328 from by have:=HNps.out;omega);have HNG:=yA (show ∀ b,sv.ownBlock=some b→¬ (fun k=>k=g) b from fun b e he=>by have h1:=HRL.out.new b e;have h2:=HRL.out.at_.was;have h3:=HZ6n.out;have h4:=HBE.out;have hee:b=g:=he;omega);have HG2:=yA (HGA.out.below (yH _ _).drew);have HOW:=yA HRL.out.own;obtain ⟨i5,hi,hz0,hz1,hz2⟩:=cR gI;refine bd 5 4 (fun w'=>w'.cell? ⟨B+1,6,none⟩=some sv) (by kernel_rfl) (by kernel_rfl) (fun _ _ _ _ _ h=>h) (HSK.out _ ((HRQ.out.trans (Keep.drew (fun k=>k=g) _) (fun _ _ h=>h) (fun _ _ h=>h):Keep (fun k=>k=g) w2 wa.drew).mono (fun _ _ h=>.inl h))) ?_;simp only [zH,zE,zI,zK]
        iterate 5 (
         refine bg (v:=?_) (Or.inl ⟨by rfl,?_⟩) ?_
         rotate_left
         · intro w' hSw
           try dsimp only at hSw
           go_simp
           try with_reducible rfl
         try simp only [Act.put,yM,yX,yZ])
        refine bs ?_;simp only [cF,Nat.reduceAdd];refine aC rfl (fun K hK=>?_);go_simp
        refine (bL wa.drew g G _ HG2.out cj (by decide)).mono ?_;rintro e w3 ⟨x,rfl,hok,hr⟩;have HRD:=yA (HRP.out _ _ hr.ofDrew);have HOX:=yA (show (⟨xr,x⟩:ag).Ok from ⟨HXR.out,ie hok⟩);have HK3g:=yA (show Keep (fun k=>k=g) w2 w3 from by obtain ⟨_,_,_,h⟩:=hr.ofDrew;exact HRQ.out.trans h (fun _ _ h=>h) (fun _ _ h=>h));have HK3:=yA (HK3g.out.mono (fun _ _ h=>.inl h):Keep (fun k=>k=g∨sv.ownBlock=some k) w2 w3);clear hr hok;go_simp
        refine hK _ _ ⟨HSK.out _ HK3.out,?_⟩;clear hK K;refine aC rfl (fun K hK=>?_);go_simp
        refine hK _ _ ⟨HSK.out _ HK3.out,?_⟩;clear hK K;refine aC rfl (fun K hK=>?_);go_simp
        refine hK _ _ ⟨HSK.out _ (HK3.out.trans (Keep.alloc (fun _=>False) _ _) (fun _ _ h=>h) (fun _ _ h=>h.elim)),?_⟩;clear hK K;refine aC rfl (fun K hK=>?_);have HOA:=yA (HOW.out.keep (HK3g.out.trans (Keep.alloc (fun _=>False) w3 (.cells #[.int .i64 xr,.int .i64 x] 69)) (Z:=fun k=>k=g) (fun _ _ h=>h) (fun _ _ h=>h.elim)) HNG.out);refine aM rfl (.tmp 108) (.tmp 113) 29 29 rfl 69 i5 _ 2 16 Tryz.underlying29 hi hz0 hz1 hz2 rfl sv j (cellsOf ag.cells xs) (by simp [Act.eval]) HOA.out (.slice (some ⟨w3.heap.size,0,none⟩) 1 1) 1 (ag.cells ⟨xr,x⟩) (by simp [Act.eval]) (Src.lit Tryz.underlying29 2 _ rfl (ag.cells_one ⟨xr,x⟩) _ _ (by first | rfl | simp)) HML.out HBYT.out ?_;intro ao2 q2 w5 ho2 hk2 hb2;have HKW:=yA (show Keep (fun k=>sv.ownBlock=some k) w3 w5 from (Keep.alloc (fun _=>False) _ _).trans hk2 (fun _ _ h=>h.elim) (fun _ _ h=>h));refine hK _ _ ⟨HSK.out _ (HK3.out.trans HKW.out (fun _ _ h=>h) (fun _ _ h=>.inr h)),?_⟩;clear hK K;obtain ⟨⟨hc5,hf5⟩,s',hnx⟩:=HRL.out.next HOX.out HRD.out HKW.out ho2 (hb2.imp id (fun ⟨g',h1,h2⟩=>⟨g',h1,yV (by simp) h2⟩)) ⟨by have:=HZ6n.out;omega,by have:=HZ6n.out;omega⟩ rfl (by omega);have HNX:=yA hnx;clear ho2 hk2 hb2 hnx;go_wp2_with fail
        go_roundw
        case rel=>exact yA ⟨j+1,_,s',_,by go_num,hlt,HNX.out⟩
        case measure=>simp [intOf];omega
    · obtain rfl:nps=j:=by omega
      have b1:decide ((nps:Int)<(nps:Int))=false:=decide_eq_false (by omega);go_wp2_with fail
      go_meet
      case rel=>exact yA (HRL.out.done (yB _) HNps.out (.inl rfl))
 case rest=>
 obtain ⟨ps,s7,pso,psc,hst,hrk,hlf,hkp,hne⟩:=hcut.out;clear hcut HBps;have HSps:=yA (Step.list HSTN.out hst);have HEps:=yA hne;have HR7:=yA (show cN w g G B (B+1) 9 s7 [.int .i64 ti,.slice wso ws.length wsc,.slice dso ds.length dsc,.int .i64 nws,.int .i64 nds,.slice eso es.length esc,.slice pso ps.length psc,.slice none 0 0,.slice none 0 0] wc from hrk);have HZ7:=yA (yV HZ6n.out hkp.size);have HXB:=yA (fun (k:Nat) (hk:k=g∨k=B+1)=>show k<B+2 from by have h1:=HR7.out.was;have h2:=HBE.out;omega);replace HLws:=yA (HLws.out.keep hkp HXB.out);replace HLds:=yA (HLds.out.keep hkp HXB.out);replace HLes:=yA (HLes.out.keep hkp HXB.out);have HLps:=yA (hlf.low HZ6n.out);clear hst hrk hlf hkp hne HXB HZ6n HSTN;obtain ⟨w7,hwc⟩:∃ W,wc=W:=⟨_,rfl⟩;rw [hwc] at HR7 HZ7 HLps HLws HLds HLes ⊢;clear hwc wc;have HR7n:=HR7;have HZ7n:=HZ7;have HNys:=HNws;obtain ⟨v7,hv⟩:∃ W,w7=W:=⟨_,rfl⟩;rw [hv] at HR7n HZ7n HLws HLds HLes HLps ⊢;clear hv HR7 HZ7 w7;go_upto_region 28 with fail
 iterate 7 go_step
 have HBys:=yA (show c8 w g G B (B+1) 7 v7 s7 dc aP ar 1 [.int .i64 ti,.slice wso ws.length wsc,.slice dso ds.length dsc,.int .i64 nws,.int .i64 nds,.slice eso es.length esc,.slice pso ps.length psc,.slice none 0 0,.slice none 0 0] 0 [] s7 (.slice none 0 0) v7 from c8.begin HR7n.out rfl);clear HR7n;go_cut [] from 17 (fun wx=>Hid (nE w g G B (B+1) 7 v7 s7 dc aP ar 64 nws [.int .i64 ti,.slice wso ws.length wsc,.slice dso ds.length dsc,.int .i64 nws,.int .i64 nds,.slice eso es.length esc,.slice pso ps.length psc,.slice none 0 0,.slice none 0 0] wx))
 case first=>
  all_goals
   have hn64:nws≤64:=HNys.out;go_wp2_with fail
   go_loopw [15] (fun i wr=>Hid (∃ (j:Nat) (xs:List Int) (sj:Option (List Int)) (sv:Value),i = .int .i64 j∧j≤nws∧c8 w g G B (B+1) 7 v7 s7 dc aP ar 1 [.int .i64 ti,.slice wso ws.length wsc,.slice dso ds.length dsc,.int .i64 nws,.int .i64 nds,.slice eso es.length esc,.slice pso ps.length psc,.slice none 0 0,.slice none 0 0] j xs sj sv wr)) (fun i _=>nws - (intOf i).toNat)
   case atStart=>exact yA ⟨0,[],s7,.slice none 0 0,rfl,yQ _,HBys.out⟩
   case round=>
    obtain ⟨j,xs,sj,sv,rfl,hj,hrl⟩:=hrel.out;clear hrel HBys;have HRL:=yA hrl;clear hrl;by_cases hlt:j<nws
    · have b1:decide ((j:Int)<(nws:Int))=true:=decide_eq_true (by omega)
      cases sj with
      | none=>
        go_wp2_with fail
        refine (bK wr g G none HRL.out.at_.gate).mono ?_;rintro e w2 ⟨rfl,rfl⟩;go_wp2_with fail
        go_meet
        case rel=>exact yA (HRL.out.done hj HNys.out (.inr rfl))
      | some lj=>
        go_wp2_with fail
        refine (bK wr g G (some lj) HRL.out.at_.gate).mono ?_;rintro e w2 ⟨rfl,rfl⟩;go_wp2_with fail
        have r5:w2.cell? ⟨B+1,7,none⟩=some sv:=by
         have:=HRL.out.at_.cells 7 sv rfl;rwa [yO] at this
        have HNB:=yA (show ¬ sv.ownBlock=some (B+1) from fun e=>by have h1:=HRL.out.new _ e;have h2:=HZ7n.out;omega);have HSK:=yA (fun (w':World) (k:Keep (fun k=>k=g∨sv.ownBlock=some k) w2 w')=>show w'.cell? ⟨B+1,7,none⟩=some sv from k.cell r5 (fun e=>by rcases e with e | e;have h1:=HRL.out.at_.was;have h2:=HBE.out;have e':B+1=g:=e;omega;exact HNB.out e));clear r5;have HML:=yA (show j+1≤maxLen from by have:=HNys.out;unfold maxLen;omega);have HBYT:=yA (show (j+1)*8≤140737488355328 from by have:=HNys.out;omega);have HNG:=yA (show ∀ b,sv.ownBlock=some b→¬ (fun k=>k=g) b from fun b e he=>by have h1:=HRL.out.new b e;have h2:=HRL.out.at_.was;have h3:=HZ7n.out;have h4:=HBE.out;have hee:b=g:=he;omega);have HG2:=yA (HRL.out.at_.gate.below (yH _ _).drew);have HOW:=yA HRL.out.own;obtain ⟨i5,hi,hz0,hz1,hz2⟩:=cR fS;refine bd 6 3 (fun w'=>w'.cell? ⟨B+1,7,none⟩=some sv) (by kernel_rfl) (by kernel_rfl) (fun _ _ _ _ _ h=>h) (HSK.out _ (Keep.drew _ _)) ?_;simp only [zH,zE,zI,zK]
        iterate 6 (
         refine bg (v:=?_) (Or.inl ⟨by rfl,?_⟩) ?_
         rotate_left
         · intro w' hSw
           try dsimp only at hSw
           go_simp
           try with_reducible rfl
         try simp only [Act.put,yM,yX,yZ])
        refine bs ?_;simp only [cF,Nat.reduceAdd];refine aC rfl (fun K hK=>?_);go_simp
        refine (kN w2.drew g G _ HG2.out).mono ?_;rintro e w3 ⟨x,rfl,hok,hr⟩;have HRD:=yA hr.ofDrew;have HOX:=yA hok;have HK3g:=yA (show Keep (fun k=>k=g) w2 w3 from by obtain ⟨_,_,_,h⟩:=hr.ofDrew;exact h);have HK3:=yA (HK3g.out.mono (fun _ _ h=>.inl h):Keep (fun k=>k=g∨sv.ownBlock=some k) w2 w3);clear hr hok;go_simp
        refine hK _ _ ⟨HSK.out _ HK3.out,?_⟩;clear hK K;refine aC rfl (fun K hK=>?_);go_simp
        refine hK _ _ ⟨HSK.out _ (HK3.out.trans (Keep.alloc (fun _=>False) _ _) (fun _ _ h=>h) (fun _ _ h=>h.elim)),?_⟩;clear hK K;refine aC rfl (fun K hK=>?_);have HOA:=yA (HOW.out.keep (HK3g.out.trans (Keep.alloc (fun _=>False) w3 (.cells #[.int .i64 x] 3)) (Z:=fun k=>k=g) (fun _ _ h=>h) (fun _ _ h=>h.elim)) HNG.out);refine aM rfl (.tmp 129) (.tmp 134) 30 30 rfl 3 i5 _ 1 8 Tryz.underlying30 hi hz0 hz1 hz2 rfl sv j (cellsOf aP xs) (by simp [Act.eval]) HOA.out (.slice (some ⟨w3.heap.size,0,none⟩) 1 1) 1 (aP x) (by simp [Act.eval]) (Src.lit Tryz.underlying30 1 _ rfl (ft x) _ _ (by first | rfl | simp)) HML.out HBYT.out ?_;intro ao2 q2 w5 ho2 hk2 hb2;have HKW:=yA (show Keep (fun k=>sv.ownBlock=some k) w3 w5 from (Keep.alloc (fun _=>False) _ _).trans hk2 (fun _ _ h=>h.elim) (fun _ _ h=>h));refine hK _ _ ⟨HSK.out _ (HK3.out.trans HKW.out (fun _ _ h=>h) (fun _ _ h=>.inr h)),?_⟩;clear hK K;obtain ⟨⟨hc5,hf5⟩,s',hnx⟩:=HRL.out.next HOX.out HRD.out HKW.out ho2 (hb2.imp id (fun ⟨g',h1,h2⟩=>⟨g',h1,yV (by simp) h2⟩)) ⟨by have:=HZ7n.out;omega,by have:=HZ7n.out;omega⟩ rfl (by omega);have HNX:=yA hnx;clear ho2 hk2 hb2 hnx;go_wp2_with fail
        go_roundw
        case rel=>exact yA ⟨j+1,_,s',_,by go_num,hlt,HNX.out⟩
        case measure=>simp [intOf];omega
    · obtain rfl:nws=j:=by omega
      have b1:decide ((nws:Int)<(nws:Int))=false:=decide_eq_false (by omega);go_wp2_with fail
      go_meet
      case rel=>exact yA (HRL.out.done (yB _) HNys.out (.inl rfl))
 case rest=>
 obtain ⟨ys,s8,yso,ysc,hst,hrk,hlf,hkp,hne⟩:=hcut.out;clear hcut HBys;have HSys:=yA (hst);have HEys:=yA hne;have HR8:=yA (show cN w g G B (B+1) 9 s8 [.int .i64 ti,.slice wso ws.length wsc,.slice dso ds.length dsc,.int .i64 nws,.int .i64 nds,.slice eso es.length esc,.slice pso ps.length psc,.slice yso ys.length ysc,.slice none 0 0] wc from hrk);have HZ8:=yA (yV HZ7n.out hkp.size);have HXB:=yA (fun (k:Nat) (hk:k=g∨k=B+1)=>show k<B+2 from by have h1:=HR8.out.was;have h2:=HBE.out;omega);replace HLws:=yA (HLws.out.keep hkp HXB.out);replace HLds:=yA (HLds.out.keep hkp HXB.out);replace HLes:=yA (HLes.out.keep hkp HXB.out);replace HLps:=yA (HLps.out.keep hkp HXB.out);have HLys:=yA (hlf.low HZ7n.out);clear hst hrk hlf hkp hne HXB HZ7n;obtain ⟨w8,hwc⟩:∃ W,wc=W:=⟨_,rfl⟩;rw [hwc] at HR8 HZ8 HLys HLws HLds HLes HLps ⊢;clear hwc wc;have HR8n:=HR8;have HZ8n:=HZ8;have HNzs:=HNds;obtain ⟨v8,hv⟩:∃ W,w8=W:=⟨_,rfl⟩;rw [hv] at HR8n HZ8n HLws HLds HLes HLps HLys ⊢;clear hv HR8 HZ8 w8;go_upto_region 32 with fail
 iterate 7 go_step
 have HBzs:=yA (show c8 w g G B (B+1) 8 v8 s8 dc aP ar 1 [.int .i64 ti,.slice wso ws.length wsc,.slice dso ds.length dsc,.int .i64 nws,.int .i64 nds,.slice eso es.length esc,.slice pso ps.length psc,.slice yso ys.length ysc,.slice none 0 0] 0 [] s8 (.slice none 0 0) v8 from c8.begin HR8n.out rfl);clear HR8n;go_cut [] from 17 (fun wx=>Hid (nE w g G B (B+1) 8 v8 s8 dc aP ar 64 nds [.int .i64 ti,.slice wso ws.length wsc,.slice dso ds.length dsc,.int .i64 nws,.int .i64 nds,.slice eso es.length esc,.slice pso ps.length psc,.slice yso ys.length ysc,.slice none 0 0] wx))
 case first=>
  all_goals
   have hn64:nds≤64:=HNzs.out;go_wp2_with fail
   go_loopw [16] (fun i wr=>Hid (∃ (j:Nat) (xs:List Int) (sj:Option (List Int)) (sv:Value),i = .int .i64 j∧j≤nds∧c8 w g G B (B+1) 8 v8 s8 dc aP ar 1 [.int .i64 ti,.slice wso ws.length wsc,.slice dso ds.length dsc,.int .i64 nws,.int .i64 nds,.slice eso es.length esc,.slice pso ps.length psc,.slice yso ys.length ysc,.slice none 0 0] j xs sj sv wr)) (fun i _=>nds - (intOf i).toNat)
   case atStart=>exact yA ⟨0,[],s8,.slice none 0 0,rfl,yQ _,HBzs.out⟩
   case round=>
    obtain ⟨j,xs,sj,sv,rfl,hj,hrl⟩:=hrel.out;clear hrel HBzs;have HRL:=yA hrl;clear hrl;by_cases hlt:j<nds
    · have b1:decide ((j:Int)<(nds:Int))=true:=decide_eq_true (by omega)
      cases sj with
      | none=>
        go_wp2_with fail
        refine (bK wr g G none HRL.out.at_.gate).mono ?_;rintro e w2 ⟨rfl,rfl⟩;go_wp2_with fail
        go_meet
        case rel=>exact yA (HRL.out.done hj HNzs.out (.inr rfl))
      | some lj=>
        go_wp2_with fail
        refine (bK wr g G (some lj) HRL.out.at_.gate).mono ?_;rintro e w2 ⟨rfl,rfl⟩;go_wp2_with fail
        have r5:w2.cell? ⟨B+1,8,none⟩=some sv:=by
         have:=HRL.out.at_.cells 8 sv rfl;rwa [yO] at this
        have HNB:=yA (show ¬ sv.ownBlock=some (B+1) from fun e=>by have h1:=HRL.out.new _ e;have h2:=HZ8n.out;omega);have HSK:=yA (fun (w':World) (k:Keep (fun k=>k=g∨sv.ownBlock=some k) w2 w')=>show w'.cell? ⟨B+1,8,none⟩=some sv from k.cell r5 (fun e=>by rcases e with e | e;have h1:=HRL.out.at_.was;have h2:=HBE.out;have e':B+1=g:=e;omega;exact HNB.out e));clear r5;have HML:=yA (show j+1≤maxLen from by have:=HNzs.out;unfold maxLen;omega);have HBYT:=yA (show (j+1)*8≤140737488355328 from by have:=HNzs.out;omega);have HNG:=yA (show ∀ b,sv.ownBlock=some b→¬ (fun k=>k=g) b from fun b e he=>by have h1:=HRL.out.new b e;have h2:=HRL.out.at_.was;have h3:=HZ8n.out;have h4:=HBE.out;have hee:b=g:=he;omega);have HG2:=yA (HRL.out.at_.gate.below (yH _ _).drew);have HOW:=yA HRL.out.own;obtain ⟨i5,hi,hz0,hz1,hz2⟩:=cR fS;refine bd 6 3 (fun w'=>w'.cell? ⟨B+1,8,none⟩=some sv) (by kernel_rfl) (by kernel_rfl) (fun _ _ _ _ _ h=>h) (HSK.out _ (Keep.drew _ _)) ?_;simp only [zH,zE,zI,zK]
        iterate 6 (
         refine bg (v:=?_) (Or.inl ⟨by rfl,?_⟩) ?_
         rotate_left
         · intro w' hSw
           try dsimp only at hSw
           go_simp
           try with_reducible rfl
         try simp only [Act.put,yM,yX,yZ])
        refine bs ?_;simp only [cF,Nat.reduceAdd];refine aC rfl (fun K hK=>?_);go_simp
        refine (kN w2.drew g G _ HG2.out).mono ?_;rintro e w3 ⟨x,rfl,hok,hr⟩;have HRD:=yA hr.ofDrew;have HOX:=yA hok;have HK3g:=yA (show Keep (fun k=>k=g) w2 w3 from by obtain ⟨_,_,_,h⟩:=hr.ofDrew;exact h);have HK3:=yA (HK3g.out.mono (fun _ _ h=>.inl h):Keep (fun k=>k=g∨sv.ownBlock=some k) w2 w3);clear hr hok;go_simp
        refine hK _ _ ⟨HSK.out _ HK3.out,?_⟩;clear hK K;refine aC rfl (fun K hK=>?_);go_simp
        refine hK _ _ ⟨HSK.out _ (HK3.out.trans (Keep.alloc (fun _=>False) _ _) (fun _ _ h=>h) (fun _ _ h=>h.elim)),?_⟩;clear hK K;refine aC rfl (fun K hK=>?_);have HOA:=yA (HOW.out.keep (HK3g.out.trans (Keep.alloc (fun _=>False) w3 (.cells #[.int .i64 x] 3)) (Z:=fun k=>k=g) (fun _ _ h=>h) (fun _ _ h=>h.elim)) HNG.out);refine aM rfl (.tmp 150) (.tmp 155) 30 30 rfl 3 i5 _ 1 8 Tryz.underlying30 hi hz0 hz1 hz2 rfl sv j (cellsOf aP xs) (by simp [Act.eval]) HOA.out (.slice (some ⟨w3.heap.size,0,none⟩) 1 1) 1 (aP x) (by simp [Act.eval]) (Src.lit Tryz.underlying30 1 _ rfl (ft x) _ _ (by first | rfl | simp)) HML.out HBYT.out ?_;intro ao2 q2 w5 ho2 hk2 hb2;have HKW:=yA (show Keep (fun k=>sv.ownBlock=some k) w3 w5 from (Keep.alloc (fun _=>False) _ _).trans hk2 (fun _ _ h=>h.elim) (fun _ _ h=>h));refine hK _ _ ⟨HSK.out _ (HK3.out.trans HKW.out (fun _ _ h=>h) (fun _ _ h=>.inr h)),?_⟩;clear hK K;obtain ⟨⟨hc5,hf5⟩,s',hnx⟩:=HRL.out.next HOX.out HRD.out HKW.out ho2 (hb2.imp id (fun ⟨g',h1,h2⟩=>⟨g',h1,yV (by simp) h2⟩)) ⟨by have:=HZ8n.out;omega,by have:=HZ8n.out;omega⟩ rfl (by omega);have HNX:=yA hnx;clear ho2 hk2 hb2 hnx;go_wp2_with fail
        go_roundw
        case rel=>exact yA ⟨j+1,_,s',_,by go_num,hlt,HNX.out⟩
        case measure=>simp [intOf];omega
    · obtain rfl:nds=j:=by omega
      have b1:decide ((nds:Int)<(nds:Int))=false:=decide_eq_false (by omega);go_wp2_with fail
      go_meet
      case rel=>exact yA (HRL.out.done (yB _) HNzs.out (.inl rfl))
 case rest=>
 obtain ⟨zs,s9,zso,zsc,hst,hrk,hlf,hkp,hne⟩:=hcut.out;clear hcut HBzs;have HSzs:=yA (hst);have HEzs:=yA hne;have HR9:=yA (show cN w g G B (B+1) 9 s9 [.int .i64 ti,.slice wso ws.length wsc,.slice dso ds.length dsc,.int .i64 nws,.int .i64 nds,.slice eso es.length esc,.slice pso ps.length psc,.slice yso ys.length ysc,.slice zso zs.length zsc] wc from hrk);have HZ9:=yA (yV HZ8n.out hkp.size);have HXB:=yA (fun (k:Nat) (hk:k=g∨k=B+1)=>show k<B+2 from by have h1:=HR9.out.was;have h2:=HBE.out;omega);replace HLws:=yA (HLws.out.keep hkp HXB.out);replace HLds:=yA (HLds.out.keep hkp HXB.out);replace HLes:=yA (HLes.out.keep hkp HXB.out);replace HLps:=yA (HLps.out.keep hkp HXB.out);replace HLys:=yA (HLys.out.keep hkp HXB.out);have HLzs:=yA (hlf.low HZ8n.out);clear hst hrk hlf hkp hne HXB HZ8n;obtain ⟨w9,hwc⟩:∃ W,wc=W:=⟨_,rfl⟩;rw [hwc] at HR9 HZ9 HLzs HLws HLds HLes HLps HLys ⊢;clear hwc wc;have HCE:=yA (fun (j:Nat) (u:Value) (hu:([.int .i64 ti,.slice wso ws.length wsc,.slice dso ds.length dsc,.int .i64 nws,.int .i64 nds,.slice eso es.length esc,.slice pso ps.length psc,.slice yso ys.length ysc,.slice zso zs.length zsc]:List Value)[j]?=some u)=>HR9.out.cells j u hu);have HTB:=yA (show w9.there B 0 (#[.int .i64 ti,.slice wso ws.length wsc,.slice dso ds.length dsc,.int .i64 nws,.int .i64 nds,.slice eso es.length esc,.slice pso ps.length psc,.slice yso ys.length ysc,.slice zso zs.length zsc]:Array Value).size from HR9.out.box);have HAL:=yA (show (#[.int .i64 ti,.slice wso ws.length wsc,.slice dso ds.length dsc,.int .i64 nws,.int .i64 nds,.slice eso es.length esc,.slice pso ps.length psc,.slice yso ys.length ysc,.slice zso zs.length zsc]:Array Value).all (·.oneCell')=true from all_oneCell_toArray (RV.cells_one (⟨⟨ti,ws,ds,nws,nds,es,ps,ys,zs⟩,wso,ws.length,wsc,dso,ds.length,dsc,eso,es.length,esc,pso,ps.length,psc,yso,ys.length,ysc,zso,zs.length,zsc⟩:RV)))
 have szf:(Tryz.prog.info? 34).map (·.size)=some (#[.int .i64 ti,.slice wso ws.length wsc,.slice dso ds.length dsc,.int .i64 nws,.int .i64 nds,.slice eso es.length esc,.slice pso ps.length psc,.slice yso ys.length ysc,.slice zso zs.length zsc]:Array Value).size:=bt
 have HSTP:=yA (sO HST.out HSws.out HSds.out HSes.out HSps.out HSys.out HSzs.out HEws.out HEds.out);have HKF:=yA (Keep.setCells w9 B 0 [.int .i64 ti,.slice wso ws.length wsc,.slice dso ds.length dsc,.int .i64 nws,.int .i64 nds,.slice eso es.length esc,.slice pso ps.length psc,.slice yso ys.length ysc,.slice zso zs.length zsc]);have HBB:=yA (show ∀ k,(fun k=>k=B) k→k<B+2 from fun k hk=>by have hk:k=B:=hk;omega);have HGF:=yA (HR9.out.gate.keep HKF.out (by have o1:=HR9.out.old;have o2:=HR9.out.was;omega) (by have o1:=HR9.out.old;have o2:=HR9.out.was;omega));have HKG:=yA (show Keep (fun k=>k=g) w (w9.setCells B 0 [.int .i64 ti,.slice wso ws.length wsc,.slice dso ds.length dsc,.int .i64 nws,.int .i64 nds,.slice eso es.length esc,.slice pso ps.length psc,.slice yso ys.length ysc,.slice zso zs.length zsc]) from HR9.out.keep.trans HKF.out (fun _ _ h=>h) (fun k hi he=>by have o1:=HR9.out.old;have he:k=B:=he;omega));have HN2:=yA (show w.heap.size≤B+2 from by have:=HBE.out;omega);have HFws:=yA (HLws.out.keep HKF.out HBB.out);have HFds:=yA (HLds.out.keep HKF.out HBB.out);have HFes:=yA (HLes.out.keep HKF.out HBB.out);have HFps:=yA (HLps.out.keep HKF.out HBB.out);have HFys:=yA (HLys.out.keep HKF.out HBB.out);have HFzs:=yA (HLzs.out.keep HKF.out HBB.out);have HEW:=yA (fun hs=>HEws.out (HSds.out.someOf (HSes.out.someOf (HSps.out.someOf (HSys.out.someOf (HSzs.out.someOf hs))))));have HED:=yA (fun hs=>HEds.out (HSes.out.someOf (HSps.out.someOf (HSys.out.someOf (HSzs.out.someOf hs)))));have HPO:=yA (uP (wc:=wsc) (kc:=dsc) (ec:=esc) (pc:=psc) (yc:=ysc) (zc:=zsc) HGF.out HKG.out HN2.out HOT.out HSTP.out HEW.out HED.out HFws.out HFds.out HFes.out HFps.out HFys.out HFzs.out);clear HSTP HKF HBB HGF HKG HN2 HEW HED HFws HFds HFes HFps HFys HFzs;clear HR9;go_wp2_with (first | ((with_reducible refine aa (o:=⟨some 159,_,_,_,_,_⟩) ?_ 34 (.tmp 3) ?_ (B+1) 0 ?_ [.int .i64 ti,.slice wso ws.length wsc,.slice dso ds.length dsc,.int .i64 nws,.int .i64 nds,.slice eso es.length esc,.slice pso ps.length psc,.slice yso ys.length ysc,.slice zso zs.length zsc] #[.int .i64 ti,.slice wso ws.length wsc,.slice dso ds.length dsc,.int .i64 nws,.int .i64 nds,.slice eso es.length esc,.slice pso ps.length psc,.slice yso ys.length ysc,.slice zso zs.length zsc] ?_ _ HCE.out Tryz.underlying34 ?_ ?_ ?_);rfl;rfl;rfl;rfl;rfl;exact bt) | ((with_reducible refine wpList_store_mid (op:=⟨none,.store 34 (.tmp 2) (.tmp 159),_,_,_,_⟩) ?_ 34 (.tmp 2) (.tmp 159) ?_ B 0 #[.int .i64 ti,.slice wso ws.length wsc,.slice dso ds.length dsc,.int .i64 nws,.int .i64 nds,.slice eso es.length esc,.slice pso ps.length psc,.slice yso ys.length ysc,.slice zso zs.length zsc] ?_ ?_ HTB.out szf HAL.out ?_);rfl;rfl;rfl;rfl))
 refine bodyPost_ret (aW 2 34 Tryz.results150 B rfl [.int .i64 ti,.slice wso ws.length wsc,.slice dso ds.length dsc,.int .i64 nws,.int .i64 nds,.slice eso es.length esc,.slice pso ps.length psc,.slice yso ys.length ysc,.slice zso zs.length zsc] #[.int .i64 ti,.slice wso ws.length wsc,.slice dso ds.length dsc,.int .i64 nws,.int .i64 nds,.slice eso es.length esc,.slice pso ps.length psc,.slice yso ys.length ysc,.slice zso zs.length zsc] rfl _ (World.rangeAt_setCells_same w9 B 0 [.int .i64 ti,.slice wso ws.length wsc,.slice dso ds.length dsc,.int .i64 nws,.int .i64 nds,.slice eso es.length esc,.slice pso ps.length psc,.slice yso ys.length ysc,.slice zso zs.length zsc] HTB.out) Tryz.underlying34 rfl bt) rfl ?_;exact ⟨(⟨⟨ti,ws,ds,nws,nds,es,ps,ys,zs⟩,wso,ws.length,wsc,dso,ds.length,dsc,eso,es.length,esc,pso,ps.length,psc,yso,ys.length,ysc,zso,zs.length,zsc⟩:RV),rfl,HPO.out⟩
end Go.Proofs.YtcaicgipibcicaaGreat
