/- The gate reads a request's fields. Printed by wip/genrdg3.py. -/
import Derived.Test.YtcaicgipibcicaaGreatQRdG2
import Derived.Test.YtcaicgipibcicaaGreatQSumA
set_option maxRecDepth 100000
set_option maxHeartbeats 4000000
set_option linter.unusedSimpArgs false
set_option linter.unusedVariables false
open Go renaming bodyPost_end→wR
open Go.Lib renaming hid→wB
open Go.RowKit.Below renaming refl→wI
open List renaming getElem?_append_left→xr,getElem?_append_right→xo,length_append→wH
namespace Go.Proofs.YtcaicgipibcicaaGreat
open Go.RowKit Go.Sort
def dT {α β:Type} (g:α→β) (p:aW α):aW β:=fun l=>(p l).map fun x=>(g x.1,x.2)
theorem bT {w:World} {P o:Nat} {A B C:List Value} (h:w.rangeAt P o (A++B++C)):w.rangeAt P (o+A.length) B:=fun j v hv=>by
 have:=h (A.length+j) v (by
  have hj:=(List.getElem?_eq_some_iff.1 hv).1;rw [xr (by rw [wH];omega),xo (by omega),Nat.add_sub_cancel_left];exact hv)
 rwa [←Nat.add_assoc] at this
theorem aE.lift {α β:Type} {w w':World} {g R G P o:Nat} {s:Option (List Int)} {p:aW α} {f:α→List Value} {ok:α→Prop} {F:β→List Value} {Ok:β→Prop} (A B C:List Value) (mk:α→β)
 (hold:w.rangeAt P o (A++B++C)) (hB:∀ y,ok y→(f y).length=B.length) (hmk:∀ y,ok y→F (mk y)=A++f y++C) (hok:∀ y,ok y→Ok (mk y)) {n:Nat} (hn:n=A.length+B.length+C.length)
 (h:aE w g R G P (o+A.length) B.length s p f ok w'):aE w g R G P o n s (dT mk p) F Ok w':=by
 subst hn;obtain ⟨x,s',h1,h2,h3,h4,h5⟩:=h;refine ⟨mk x,s',hok x h1,h2,h3.map mk _ (fun l=>rfl),h4.wide (by omega) (by omega),?_⟩;rw [hmk x h1];have hfB:=hB x h1;intro j v hv;by_cases hj1:j<A.length
 · refine h4.else_ (o+j) (.inl (by omega)) v (hold j v ?_)
   rw [List.append_assoc,xr hj1] at hv ⊢;exact hv
 · by_cases hj2:j<A.length+B.length
   · rw [xr (by rw [wH];omega),xo (by omega)] at hv
     have:=h5 (j - A.length) v hv;rwa [show o+A.length+(j - A.length)=o+j by omega] at this
   · refine h4.else_ (o+j) (.inr (by omega)) v (hold j v ?_)
     rw [xo (by rw [wH];omega)] at hv ⊢;rw [wH] at hv ⊢;rw [←hfB];exact hv
theorem aE.after {α:Type} {w w1 w':World} {g R G P o n:Nat} {s:Option (List Int)} {p:aW α} {f:α→List Value} {ok:α→Prop} (hk:aq w g R P o n w1) (h:aE w1 g R G P o n s p f ok w'):aE w g R G P o n s p f ok w':=by
 obtain ⟨x,s',h1,h2,h3,h4,h5⟩:=h;exact ⟨x,s',h1,h2,h3,hk.trans h4,h5⟩
theorem aF {w:World} {P o n:Nat} (h:w.there P o n) (k m:Nat) (hm:k+m≤n):w.there P (o+k) m:=fun j hj=>by
 have:=h (k+j) (by omega);rwa [←Nat.add_assoc] at this
def ek:Nat→aB→aW aB
 | 0,x=>dT (fun d=>{ x with i0:=d.getD 0 0,i1:=d.getD 1 0,i2:=d.getD 2 0,i3:=d.getD 3 0,i4:=d.getD 4 0,i5:=d.getD 5 0,i6:=d.getD 6 0,i7:=d.getD 7 0 }) (bK 8)
 | 1,x=>dT (fun d=>{ x with fx:=d.1,fy:=d.2 }) dg
 | 2,x=>dT (fun d=>{ x with tx:=d.1,ty:=d.2 }) dg
 | 3,x=>dT (fun d=>{ x with seats:=d }) ff
 | 4,x=>dT (fun d=>{ x with classes:=d }) ff
 | 5,x=>dT (fun d=>{ x with base:=d }) eT
 | 6,x=>dT (fun d=>{ x with ttl:=d }) eT
 | _,x=>fun l=>some (x,l)
def e8 (x0:aB):Nat→aW aB
 | 0=>fun l=>some (x0,l)
 | k+1=>fun l=>(e8 x0 k l).bind fun y=>ek k y.1 y.2
theorem Step.part {x0 x x':aB} {k:Nat} {s s1 s2:Option (List Int)} (h1:Step (e8 x0 k) s s1 x) (h2:Step (ek k x) s1 s2 x'):Step (e8 x0 (k+1)) s s2 x':=by
 obtain ⟨e1,v1⟩:=h1;obtain ⟨e2,v2⟩:=h2;cases s with
 | none=>subst e1;subst e2;exact Step.none _ _
 | some l=>
   simp only [Option.bind_some] at e1 v1;cases hp:e8 x0 k l with
   | none=>
     rw [hp] at e1;subst e1;subst e2;exact Step.fail (by simp [e8,hp]) _
   | some y=>
     obtain ⟨y,l1⟩:=y;rw [hp] at e1;have ha:=v1 y l1 hp;subst e1 ha;simp only [Option.map_some,Option.bind_some] at e2 v2;cases hq:ek k x l1 with
     | none=>
       rw [hq] at e2;subst e2;exact Step.fail (by simp [e8,hp,hq]) _
     | some z=>
       obtain ⟨z,l2⟩:=z;rw [hq] at e2;have hb:=v2 z l2 hq;subst e2 hb;exact Step.some (by simp [e8,hp,hq])
theorem qI (w:World) (g R G P o:Nat) (s:Option (List Int)) (h:GtR w g R G s) (B0 B1:Nat) (h0:w.heap[B0]?=some (.cells #[.pointer (some ⟨g,0,none⟩)] 142 (0,0))) (h1:w.heap[B1]?=some (.cells #[.pointer (some ⟨P,o,none⟩)] 261 (0,0)))
 (x:aB) (hx:x.Ok) (hold:w.rangeAt P o x.cells) (hth:w.there P o 16) (hP:P≠g∧P≠R∧P≠G) :
 Calls Tryz.prog 202 #[.pointer (some ⟨B0,0,none⟩),.pointer (some ⟨B1,0,none⟩)] w fun e w'=>e = .returned (.tuple #[])∧aE w g R G P o 16 s (ek 0 x) aB.cells aB.Ok w':=by
 have H:=wB (h.below (wI _ _).drew);have HX:=wB hx;have HO:=wB hold;have HTH:=wB hth;have HP:=wB hP;have p0:=al h0;have p1:=al h1;clear h h0 h1 hx hold hth hP;go_enter Tryz.func202,Tryz.ntmps202
 go_still_tail 4,(by kernel_rfl)
 change wpList _ _ _ _ _ w.drew
 go_wp2_with fail
 refine (uD w.drew g R G P o s H.out [x.i0,x.i1,x.i2,x.i3,x.i4,x.i5,x.i6,x.i7] (bT (A:=[]) (B:=[.int .u8 x.i0,.int .u8 x.i1,.int .u8 x.i2,.int .u8 x.i3,.int .u8 x.i4,.int .u8 x.i5,.int .u8 x.i6,.int .u8 x.i7]) (C:=[.int .i16 x.fx,.int .i16 x.fy,.int .i16 x.tx,.int .i16 x.ty,.int .u8 x.seats,.int .u8 x.classes,.int .i64 x.base,.int .i64 x.ttl]) HO.out) (⟨rfl,by intro z hz;have h:=HX.out.id;simp only [bp] at h;simp only [List.mem_cons,List.not_mem_nil,or_false] at hz;rcases hz with rfl | rfl | rfl | rfl | rfl | rfl | rfl | rfl <;> omega⟩) (aF HTH.out 0 8 (by omega)) HP.out).mono ?_;rintro e w2 ⟨rfl,hb2⟩;have HE:=wB (show aE w g R G P o 16 s (ek 0 x) aB.cells aB.Ok w2 from aE.after (aq.of_keep (Keep.drew (fun _=>False) w) (fun _ h=>h.elim)) (aE.lift (w:=w.drew) (w':=w2) (g:=g) (R:=R) (G:=G) (P:=P) (o:=o) (s:=s) (p:=(bK 8)) (f:=cellsOf ah) (ok:=(fun d=>d.length=8∧Byt d)) (F:=aB.cells) (Ok:=aB.Ok) [] [.int .u8 x.i0,.int .u8 x.i1,.int .u8 x.i2,.int .u8 x.i3,.int .u8 x.i4,.int .u8 x.i5,.int .u8 x.i6,.int .u8 x.i7] [.int .i16 x.fx,.int .i16 x.fy,.int .i16 x.tx,.int .i16 x.ty,.int .u8 x.seats,.int .u8 x.classes,.int .i64 x.base,.int .i64 x.ttl] (fun d=>({ x with i0:=d.getD 0 0,i1:=d.getD 1 0,i2:=d.getD 2 0,i3:=d.getD 3 0,i4:=d.getD 4 0,i5:=d.getD 5 0,i6:=d.getD 6 0,i7:=d.getD 7 0 }:aB)) (show w.drew.rangeAt P o x.cells from HO.out) (fun y hy=>by rw [aI,hy.1];rfl) (fun y hy=>by obtain ⟨i0,i1,i2,i3,i4,i5,i6,i7,rfl⟩:=gK hy.1;rfl) (fun y hy=>by obtain ⟨i0,i1,i2,i3,i4,i5,i6,i7,rfl⟩:=gK hy.1;exact ⟨⟨hy.2 _ (by simp),hy.2 _ (by simp),hy.2 _ (by simp),hy.2 _ (by simp),hy.2 _ (by simp),hy.2 _ (by simp),hy.2 _ (by simp),hy.2 _ (by simp)⟩,HX.out.from_,HX.out.to_,HX.out.seats,HX.out.classes,HX.out.base,HX.out.ttl⟩) rfl hb2));clear hb2;go_wp2_with fail
 exact wR (v:=.tuple #[]) (by simp [results,Tryz.results202,go_sem]) rfl ⟨rfl,HE.out⟩
theorem qJ (w:World) (g R G P o:Nat) (s:Option (List Int)) (h:GtR w g R G s) (B0 B1:Nat) (h0:w.heap[B0]?=some (.cells #[.pointer (some ⟨g,0,none⟩)] 142 (0,0))) (h1:w.heap[B1]?=some (.cells #[.pointer (some ⟨P,o,none⟩)] 261 (0,0)))
 (x:aB) (hx:x.Ok) (hold:w.rangeAt P o x.cells) (hth:w.there P o 16) (hP:P≠g∧P≠R∧P≠G) :
 Calls Tryz.prog 203 #[.pointer (some ⟨B0,0,none⟩),.pointer (some ⟨B1,0,none⟩)] w fun e w'=>e = .returned (.tuple #[])∧aE w g R G P o 16 s (ek 1 x) aB.cells aB.Ok w':=by
 have H:=wB (h.below (wI _ _).drew);have HX:=wB hx;have HO:=wB hold;have HTH:=wB hth;have HP:=wB hP;have p0:=al h0;have p1:=al h1;clear h h0 h1 hx hold hth hP;go_enter Tryz.func203,Tryz.ntmps203
 go_still_tail 4,(by kernel_rfl)
 change wpList _ _ _ _ _ w.drew
 go_wp2_with fail
 refine (jG w.drew g R G P (o+8) s H.out (x.fx,x.fy) (bT (A:=[.int .u8 x.i0,.int .u8 x.i1,.int .u8 x.i2,.int .u8 x.i3,.int .u8 x.i4,.int .u8 x.i5,.int .u8 x.i6,.int .u8 x.i7]) (B:=[.int .i16 x.fx,.int .i16 x.fy]) (C:=[.int .i16 x.tx,.int .i16 x.ty,.int .u8 x.seats,.int .u8 x.classes,.int .i64 x.base,.int .i64 x.ttl]) HO.out) (HX.out.from_) (aF HTH.out 8 2 (by omega)) HP.out).mono ?_;rintro e w2 ⟨rfl,hb2⟩;have HE:=wB (show aE w g R G P o 16 s (ek 1 x) aB.cells aB.Ok w2 from aE.after (aq.of_keep (Keep.drew (fun _=>False) w) (fun _ h=>h.elim)) (aE.lift (w:=w.drew) (w':=w2) (g:=g) (R:=R) (G:=G) (P:=P) (o:=o) (s:=s) (p:=dg) (f:=fun x=>[.int .i16 x.1,.int .i16 x.2]) (ok:=(fun x=>aY x.1∧aY x.2)) (F:=aB.cells) (Ok:=aB.Ok) [.int .u8 x.i0,.int .u8 x.i1,.int .u8 x.i2,.int .u8 x.i3,.int .u8 x.i4,.int .u8 x.i5,.int .u8 x.i6,.int .u8 x.i7] [.int .i16 x.fx,.int .i16 x.fy] [.int .i16 x.tx,.int .i16 x.ty,.int .u8 x.seats,.int .u8 x.classes,.int .i64 x.base,.int .i64 x.ttl] (fun d=>({ x with fx:=d.1,fy:=d.2 }:aB)) (show w.drew.rangeAt P o x.cells from HO.out) (fun y hy=>rfl) (fun y hy=>rfl) (fun y hy=>⟨HX.out.id,hy,HX.out.to_,HX.out.seats,HX.out.classes,HX.out.base,HX.out.ttl⟩) rfl hb2));clear hb2;go_wp2_with fail
 exact wR (v:=.tuple #[]) (by simp [results,Tryz.results203,go_sem]) rfl ⟨rfl,HE.out⟩
theorem qK (w:World) (g R G P o:Nat) (s:Option (List Int)) (h:GtR w g R G s) (B0 B1:Nat) (h0:w.heap[B0]?=some (.cells #[.pointer (some ⟨g,0,none⟩)] 142 (0,0))) (h1:w.heap[B1]?=some (.cells #[.pointer (some ⟨P,o,none⟩)] 261 (0,0)))
 (x:aB) (hx:x.Ok) (hold:w.rangeAt P o x.cells) (hth:w.there P o 16) (hP:P≠g∧P≠R∧P≠G) :
 Calls Tryz.prog 204 #[.pointer (some ⟨B0,0,none⟩),.pointer (some ⟨B1,0,none⟩)] w fun e w'=>e = .returned (.tuple #[])∧aE w g R G P o 16 s (ek 2 x) aB.cells aB.Ok w':=by
 have H:=wB (h.below (wI _ _).drew);have HX:=wB hx;have HO:=wB hold;have HTH:=wB hth;have HP:=wB hP;have p0:=al h0;have p1:=al h1;clear h h0 h1 hx hold hth hP;go_enter Tryz.func204,Tryz.ntmps204
 go_still_tail 4,(by kernel_rfl)
 change wpList _ _ _ _ _ w.drew
 go_wp2_with fail
 refine (jG w.drew g R G P (o+10) s H.out (x.tx,x.ty) (bT (A:=[.int .u8 x.i0,.int .u8 x.i1,.int .u8 x.i2,.int .u8 x.i3,.int .u8 x.i4,.int .u8 x.i5,.int .u8 x.i6,.int .u8 x.i7,.int .i16 x.fx,.int .i16 x.fy]) (B:=[.int .i16 x.tx,.int .i16 x.ty]) (C:=[.int .u8 x.seats,.int .u8 x.classes,.int .i64 x.base,.int .i64 x.ttl]) HO.out) (HX.out.to_) (aF HTH.out 10 2 (by omega)) HP.out).mono ?_;rintro e w2 ⟨rfl,hb2⟩;have HE:=wB (show aE w g R G P o 16 s (ek 2 x) aB.cells aB.Ok w2 from aE.after (aq.of_keep (Keep.drew (fun _=>False) w) (fun _ h=>h.elim)) (aE.lift (w:=w.drew) (w':=w2) (g:=g) (R:=R) (G:=G) (P:=P) (o:=o) (s:=s) (p:=dg) (f:=fun x=>[.int .i16 x.1,.int .i16 x.2]) (ok:=(fun x=>aY x.1∧aY x.2)) (F:=aB.cells) (Ok:=aB.Ok) [.int .u8 x.i0,.int .u8 x.i1,.int .u8 x.i2,.int .u8 x.i3,.int .u8 x.i4,.int .u8 x.i5,.int .u8 x.i6,.int .u8 x.i7,.int .i16 x.fx,.int .i16 x.fy] [.int .i16 x.tx,.int .i16 x.ty] [.int .u8 x.seats,.int .u8 x.classes,.int .i64 x.base,.int .i64 x.ttl] (fun d=>({ x with tx:=d.1,ty:=d.2 }:aB)) (show w.drew.rangeAt P o x.cells from HO.out) (fun y hy=>rfl) (fun y hy=>rfl) (fun y hy=>⟨HX.out.id,HX.out.from_,hy,HX.out.seats,HX.out.classes,HX.out.base,HX.out.ttl⟩) rfl hb2));clear hb2;go_wp2_with fail
 exact wR (v:=.tuple #[]) (by simp [results,Tryz.results204,go_sem]) rfl ⟨rfl,HE.out⟩
theorem qL (w:World) (g R G P o:Nat) (s:Option (List Int)) (h:GtR w g R G s) (B0 B1:Nat) (h0:w.heap[B0]?=some (.cells #[.pointer (some ⟨g,0,none⟩)] 142 (0,0))) (h1:w.heap[B1]?=some (.cells #[.pointer (some ⟨P,o,none⟩)] 261 (0,0)))
 (x:aB) (hx:x.Ok) (hold:w.rangeAt P o x.cells) (hth:w.there P o 16) (hP:P≠g∧P≠R∧P≠G) :
 Calls Tryz.prog 205 #[.pointer (some ⟨B0,0,none⟩),.pointer (some ⟨B1,0,none⟩)] w fun e w'=>e = .returned (.tuple #[])∧aE w g R G P o 16 s (ek 3 x) aB.cells aB.Ok w':=by
 have H:=wB (h.below (wI _ _).drew);have HX:=wB hx;have HO:=wB hold;have HTH:=wB hth;have HP:=wB hP;have p0:=al h0;have p1:=al h1;clear h h0 h1 hx hold hth hP;go_enter Tryz.func205,Tryz.ntmps205
 go_still_tail 4,(by kernel_rfl)
 change wpList _ _ _ _ _ w.drew
 go_wp2_with fail
 refine (gZ w.drew g R G P (o+12) s H.out x.seats (bT (A:=[.int .u8 x.i0,.int .u8 x.i1,.int .u8 x.i2,.int .u8 x.i3,.int .u8 x.i4,.int .u8 x.i5,.int .u8 x.i6,.int .u8 x.i7,.int .i16 x.fx,.int .i16 x.fy,.int .i16 x.tx,.int .i16 x.ty]) (B:=[.int .u8 x.seats]) (C:=[.int .u8 x.classes,.int .i64 x.base,.int .i64 x.ttl]) HO.out) (HX.out.seats) (aF HTH.out 12 1 (by omega)) HP.out).mono ?_;rintro e w2 ⟨rfl,hb2⟩;have HE:=wB (show aE w g R G P o 16 s (ek 3 x) aB.cells aB.Ok w2 from aE.after (aq.of_keep (Keep.drew (fun _=>False) w) (fun _ h=>h.elim)) (aE.lift (w:=w.drew) (w':=w2) (g:=g) (R:=R) (G:=G) (P:=P) (o:=o) (s:=s) (p:=ff) (f:=fun x=>[.int .u8 x]) (ok:=bp) (F:=aB.cells) (Ok:=aB.Ok) [.int .u8 x.i0,.int .u8 x.i1,.int .u8 x.i2,.int .u8 x.i3,.int .u8 x.i4,.int .u8 x.i5,.int .u8 x.i6,.int .u8 x.i7,.int .i16 x.fx,.int .i16 x.fy,.int .i16 x.tx,.int .i16 x.ty] [.int .u8 x.seats] [.int .u8 x.classes,.int .i64 x.base,.int .i64 x.ttl] (fun d=>({ x with seats:=d }:aB)) (show w.drew.rangeAt P o x.cells from HO.out) (fun y hy=>rfl) (fun y hy=>rfl) (fun y hy=>⟨HX.out.id,HX.out.from_,HX.out.to_,hy,HX.out.classes,HX.out.base,HX.out.ttl⟩) rfl hb2));clear hb2;go_wp2_with fail
 exact wR (v:=.tuple #[]) (by simp [results,Tryz.results205,go_sem]) rfl ⟨rfl,HE.out⟩
theorem qM (w:World) (g R G P o:Nat) (s:Option (List Int)) (h:GtR w g R G s) (B0 B1:Nat) (h0:w.heap[B0]?=some (.cells #[.pointer (some ⟨g,0,none⟩)] 142 (0,0))) (h1:w.heap[B1]?=some (.cells #[.pointer (some ⟨P,o,none⟩)] 261 (0,0)))
 (x:aB) (hx:x.Ok) (hold:w.rangeAt P o x.cells) (hth:w.there P o 16) (hP:P≠g∧P≠R∧P≠G) :
 Calls Tryz.prog 206 #[.pointer (some ⟨B0,0,none⟩),.pointer (some ⟨B1,0,none⟩)] w fun e w'=>e = .returned (.tuple #[])∧aE w g R G P o 16 s (ek 4 x) aB.cells aB.Ok w':=by
 have H:=wB (h.below (wI _ _).drew);have HX:=wB hx;have HO:=wB hold;have HTH:=wB hth;have HP:=wB hP;have p0:=al h0;have p1:=al h1;clear h h0 h1 hx hold hth hP;go_enter Tryz.func206,Tryz.ntmps206
 go_still_tail 4,(by kernel_rfl)
 change wpList _ _ _ _ _ w.drew
 go_wp2_with fail
 refine (gZ w.drew g R G P (o+13) s H.out x.classes (bT (A:=[.int .u8 x.i0,.int .u8 x.i1,.int .u8 x.i2,.int .u8 x.i3,.int .u8 x.i4,.int .u8 x.i5,.int .u8 x.i6,.int .u8 x.i7,.int .i16 x.fx,.int .i16 x.fy,.int .i16 x.tx,.int .i16 x.ty,.int .u8 x.seats]) (B:=[.int .u8 x.classes]) (C:=[.int .i64 x.base,.int .i64 x.ttl]) HO.out) (HX.out.classes) (aF HTH.out 13 1 (by omega)) HP.out).mono ?_;rintro e w2 ⟨rfl,hb2⟩;have HE:=wB (show aE w g R G P o 16 s (ek 4 x) aB.cells aB.Ok w2 from aE.after (aq.of_keep (Keep.drew (fun _=>False) w) (fun _ h=>h.elim)) (aE.lift (w:=w.drew) (w':=w2) (g:=g) (R:=R) (G:=G) (P:=P) (o:=o) (s:=s) (p:=ff) (f:=fun x=>[.int .u8 x]) (ok:=bp) (F:=aB.cells) (Ok:=aB.Ok) [.int .u8 x.i0,.int .u8 x.i1,.int .u8 x.i2,.int .u8 x.i3,.int .u8 x.i4,.int .u8 x.i5,.int .u8 x.i6,.int .u8 x.i7,.int .i16 x.fx,.int .i16 x.fy,.int .i16 x.tx,.int .i16 x.ty,.int .u8 x.seats] [.int .u8 x.classes] [.int .i64 x.base,.int .i64 x.ttl] (fun d=>({ x with classes:=d }:aB)) (show w.drew.rangeAt P o x.cells from HO.out) (fun y hy=>rfl) (fun y hy=>rfl) (fun y hy=>⟨HX.out.id,HX.out.from_,HX.out.to_,HX.out.seats,hy,HX.out.base,HX.out.ttl⟩) rfl hb2));clear hb2;go_wp2_with fail
 exact wR (v:=.tuple #[]) (by simp [results,Tryz.results206,go_sem]) rfl ⟨rfl,HE.out⟩
theorem qN (w:World) (g R G P o:Nat) (s:Option (List Int)) (h:GtR w g R G s) (B0 B1:Nat) (h0:w.heap[B0]?=some (.cells #[.pointer (some ⟨g,0,none⟩)] 142 (0,0))) (h1:w.heap[B1]?=some (.cells #[.pointer (some ⟨P,o,none⟩)] 261 (0,0)))
 (x:aB) (hx:x.Ok) (hold:w.rangeAt P o x.cells) (hth:w.there P o 16) (hP:P≠g∧P≠R∧P≠G) :
 Calls Tryz.prog 207 #[.pointer (some ⟨B0,0,none⟩),.pointer (some ⟨B1,0,none⟩)] w fun e w'=>e = .returned (.tuple #[])∧aE w g R G P o 16 s (ek 5 x) aB.cells aB.Ok w':=by
 have H:=wB (h.below (wI _ _).drew);have HX:=wB hx;have HO:=wB hold;have HTH:=wB hth;have HP:=wB hP;have p0:=al h0;have p1:=al h1;clear h h0 h1 hx hold hth hP;go_enter Tryz.func207,Tryz.ntmps207
 go_still_tail 4,(by kernel_rfl)
 change wpList _ _ _ _ _ w.drew
 go_wp2_with fail
 refine (gY w.drew g R G P (o+14) s H.out x.base (bT (A:=[.int .u8 x.i0,.int .u8 x.i1,.int .u8 x.i2,.int .u8 x.i3,.int .u8 x.i4,.int .u8 x.i5,.int .u8 x.i6,.int .u8 x.i7,.int .i16 x.fx,.int .i16 x.fy,.int .i16 x.tx,.int .i16 x.ty,.int .u8 x.seats,.int .u8 x.classes]) (B:=[.int .i64 x.base]) (C:=[.int .i64 x.ttl]) HO.out) (HX.out.base) (aF HTH.out 14 1 (by omega)) HP.out).mono ?_;rintro e w2 ⟨rfl,hb2⟩;have HE:=wB (show aE w g R G P o 16 s (ek 5 x) aB.cells aB.Ok w2 from aE.after (aq.of_keep (Keep.drew (fun _=>False) w) (fun _ h=>h.elim)) (aE.lift (w:=w.drew) (w':=w2) (g:=g) (R:=R) (G:=G) (P:=P) (o:=o) (s:=s) (p:=eT) (f:=fun x=>[.int .i64 x]) (ok:=ar) (F:=aB.cells) (Ok:=aB.Ok) [.int .u8 x.i0,.int .u8 x.i1,.int .u8 x.i2,.int .u8 x.i3,.int .u8 x.i4,.int .u8 x.i5,.int .u8 x.i6,.int .u8 x.i7,.int .i16 x.fx,.int .i16 x.fy,.int .i16 x.tx,.int .i16 x.ty,.int .u8 x.seats,.int .u8 x.classes] [.int .i64 x.base] [.int .i64 x.ttl] (fun d=>({ x with base:=d }:aB)) (show w.drew.rangeAt P o x.cells from HO.out) (fun y hy=>rfl) (fun y hy=>rfl) (fun y hy=>⟨HX.out.id,HX.out.from_,HX.out.to_,HX.out.seats,HX.out.classes,hy,HX.out.ttl⟩) rfl hb2));clear hb2;go_wp2_with fail
 exact wR (v:=.tuple #[]) (by simp [results,Tryz.results207,go_sem]) rfl ⟨rfl,HE.out⟩
theorem qO (w:World) (g R G P o:Nat) (s:Option (List Int)) (h:GtR w g R G s) (B0 B1:Nat) (h0:w.heap[B0]?=some (.cells #[.pointer (some ⟨g,0,none⟩)] 142 (0,0))) (h1:w.heap[B1]?=some (.cells #[.pointer (some ⟨P,o,none⟩)] 261 (0,0)))
 (x:aB) (hx:x.Ok) (hold:w.rangeAt P o x.cells) (hth:w.there P o 16) (hP:P≠g∧P≠R∧P≠G) :
 Calls Tryz.prog 208 #[.pointer (some ⟨B0,0,none⟩),.pointer (some ⟨B1,0,none⟩)] w fun e w'=>e = .returned (.tuple #[])∧aE w g R G P o 16 s (ek 6 x) aB.cells aB.Ok w':=by
 have H:=wB (h.below (wI _ _).drew);have HX:=wB hx;have HO:=wB hold;have HTH:=wB hth;have HP:=wB hP;have p0:=al h0;have p1:=al h1;clear h h0 h1 hx hold hth hP;go_enter Tryz.func208,Tryz.ntmps208
 go_still_tail 4,(by kernel_rfl)
 change wpList _ _ _ _ _ w.drew
 go_wp2_with fail
 refine (gY w.drew g R G P (o+15) s H.out x.ttl (bT (A:=[.int .u8 x.i0,.int .u8 x.i1,.int .u8 x.i2,.int .u8 x.i3,.int .u8 x.i4,.int .u8 x.i5,.int .u8 x.i6,.int .u8 x.i7,.int .i16 x.fx,.int .i16 x.fy,.int .i16 x.tx,.int .i16 x.ty,.int .u8 x.seats,.int .u8 x.classes,.int .i64 x.base]) (B:=[.int .i64 x.ttl]) (C:=[]) HO.out) (HX.out.ttl) (aF HTH.out 15 1 (by omega)) HP.out).mono ?_;rintro e w2 ⟨rfl,hb2⟩;have HE:=wB (show aE w g R G P o 16 s (ek 6 x) aB.cells aB.Ok w2 from aE.after (aq.of_keep (Keep.drew (fun _=>False) w) (fun _ h=>h.elim)) (aE.lift (w:=w.drew) (w':=w2) (g:=g) (R:=R) (G:=G) (P:=P) (o:=o) (s:=s) (p:=eT) (f:=fun x=>[.int .i64 x]) (ok:=ar) (F:=aB.cells) (Ok:=aB.Ok) [.int .u8 x.i0,.int .u8 x.i1,.int .u8 x.i2,.int .u8 x.i3,.int .u8 x.i4,.int .u8 x.i5,.int .u8 x.i6,.int .u8 x.i7,.int .i16 x.fx,.int .i16 x.fy,.int .i16 x.tx,.int .i16 x.ty,.int .u8 x.seats,.int .u8 x.classes,.int .i64 x.base] [.int .i64 x.ttl] [] (fun d=>({ x with ttl:=d }:aB)) (show w.drew.rangeAt P o x.cells from HO.out) (fun y hy=>rfl) (fun y hy=>rfl) (fun y hy=>⟨HX.out.id,HX.out.from_,HX.out.to_,HX.out.seats,HX.out.classes,HX.out.base,hy⟩) rfl hb2));clear hb2;go_wp2_with fail
 exact wR (v:=.tuple #[]) (by simp [results,Tryz.results208,go_sem]) rfl ⟨rfl,HE.out⟩
theorem qP (w:World) (g R G P o:Nat) (s:Option (List Int)) (h:GtR w g R G s) (B0 B1:Nat) (h0:w.heap[B0]?=some (.cells #[.pointer (some ⟨g,0,none⟩)] 142 (0,0))) (h1:w.heap[B1]?=some (.cells #[.pointer (some ⟨P,o,none⟩)] 261 (0,0)))
 (x:aB) (hx:x.Ok) (hold:w.rangeAt P o x.cells) (hth:w.there P o 16) (hP:P≠g∧P≠R∧P≠G) (k fn:Nat) (hg:[202,203,204,205,206,207,208][k]?=some fn) :
 Calls Tryz.prog fn #[.pointer (some ⟨B0,0,none⟩),.pointer (some ⟨B1,0,none⟩)] w fun e w'=>e = .returned (.tuple #[])∧aE w g R G P o 16 s (ek k x) aB.cells aB.Ok w':=by
 match k,hg with
 | 0,hg=>simp at hg;subst hg;exact qI w g R G P o s h B0 B1 h0 h1 x hx hold hth hP
 | 1,hg=>simp at hg;subst hg;exact qJ w g R G P o s h B0 B1 h0 h1 x hx hold hth hP
 | 2,hg=>simp at hg;subst hg;exact qK w g R G P o s h B0 B1 h0 h1 x hx hold hth hP
 | 3,hg=>simp at hg;subst hg;exact qL w g R G P o s h B0 B1 h0 h1 x hx hold hth hP
 | 4,hg=>simp at hg;subst hg;exact qM w g R G P o s h B0 B1 h0 h1 x hx hold hth hP
 | 5,hg=>simp at hg;subst hg;exact qN w g R G P o s h B0 B1 h0 h1 x hx hold hth hP
 | 6,hg=>simp at hg;subst hg;exact qO w g R G P o s h B0 B1 h0 h1 x hx hold hth hP
 | k+7,hg=>simp at hg
end Go.Proofs.YtcaicgipibcicaaGreat
