/- The gate reads a request's fields. Printed by wip/genrdg3.py. -/
import Derived.Test.YtcaicgipibcicaaGreatQRdG2
import Derived.Test.YtcaicgipibcicaaGreatQRowB
set_option maxRecDepth 100000
set_option maxHeartbeats 4000000
set_option linter.unusedSimpArgs false
set_option linter.unusedVariables false
open Go renaming bodyPost_end→z9
open Go.Lib renaming hid→yA
open Go.RowKit.Below renaming refl→yH
open List renaming getElem?_append_left→zA,getElem?_append_right→zx,length_append→yN
namespace Go.Proofs.YtcaicgipibcicaaGreat
open Go.RowKit Go.Sort
def iD {α β:Type} (g:α→β) (p:bl α):bl β:=fun l=>(p l).map fun x=>(g x.1,x.2)
theorem cS {w:World} {P o:Nat} {A B C:List Value} (h:w.rangeAt P o (A++B++C)):w.rangeAt P (o+A.length) B:=fun j v hv=>by
 have:=h (A.length+j) v (by
  have hj:=(List.getElem?_eq_some_iff.1 hv).1;rw [zA (by rw [yN];omega),zx (by omega),Nat.add_sub_cancel_left];exact hv)
 rwa [←Nat.add_assoc] at this
theorem aN.lift {α β:Type} {w w':World} {g R G P o:Nat} {s:Option (List Int)} {p:bl α} {f:α→List Value} {ok:α→Prop} {F:β→List Value} {Ok:β→Prop} (A B C:List Value) (mk:α→β)
 (hold:w.rangeAt P o (A++B++C)) (hB:∀ y,ok y→(f y).length=B.length) (hmk:∀ y,ok y→F (mk y)=A++f y++C) (hok:∀ y,ok y→Ok (mk y)) {n:Nat} (hn:n=A.length+B.length+C.length)
 (h:aN w g R G P (o+A.length) B.length s p f ok w'):aN w g R G P o n s (iD mk p) F Ok w':=by
 subst hn;obtain ⟨x,s',h1,h2,h3,h4,h5⟩:=h;refine ⟨mk x,s',hok x h1,h2,h3.map mk _ (fun l=>rfl),h4.wide (by omega) (by omega),?_⟩;rw [hmk x h1];have hfB:=hB x h1;intro j v hv;by_cases hj1:j<A.length
 · refine h4.else_ (o+j) (.inl (by omega)) v (hold j v ?_)
   rw [List.append_assoc,zA hj1] at hv ⊢;exact hv
 · by_cases hj2:j<A.length+B.length
   · rw [zA (by rw [yN];omega),zx (by omega)] at hv
     have:=h5 (j - A.length) v hv;rwa [show o+A.length+(j - A.length)=o+j by omega] at this
   · refine h4.else_ (o+j) (.inr (by omega)) v (hold j v ?_)
     rw [zx (by rw [yN];omega)] at hv ⊢;rw [yN] at hv ⊢;rw [←hfB];exact hv
theorem aN.after {α:Type} {w w1 w':World} {g R G P o n:Nat} {s:Option (List Int)} {p:bl α} {f:α→List Value} {ok:α→Prop} (hk:av w g R P o n w1) (h:aN w1 g R G P o n s p f ok w'):aN w g R G P o n s p f ok w':=by
 obtain ⟨x,s',h1,h2,h3,h4,h5⟩:=h;exact ⟨x,s',h1,h2,h3,hk.trans h4,h5⟩
theorem aI {w:World} {P o n:Nat} (h:w.there P o n) (k m:Nat) (hm:k+m≤n):w.there P (o+k) m:=fun j hj=>by
 have:=h (k+j) (by omega);rwa [←Nat.add_assoc] at this
def fc:Nat→az→bl az
 | 0,x=>iD (fun d=>{ x with i0:=d.getD 0 0,i1:=d.getD 1 0,i2:=d.getD 2 0,i3:=d.getD 3 0,i4:=d.getD 4 0,i5:=d.getD 5 0,i6:=d.getD 6 0,i7:=d.getD 7 0 }) (bM 8)
 | 1,x=>iD (fun d=>{ x with fx:=d.1,fy:=d.2 }) cG
 | 2,x=>iD (fun d=>{ x with tx:=d.1,ty:=d.2 }) cG
 | 3,x=>iD (fun d=>{ x with seats:=d }) ej
 | 4,x=>iD (fun d=>{ x with classes:=d }) ej
 | 5,x=>iD (fun d=>{ x with base:=d }) dc
 | 6,x=>iD (fun d=>{ x with ttl:=d }) dc
 | _,x=>fun l=>some (x,l)
def ei (x0:az):Nat→bl az
 | 0=>fun l=>some (x0,l)
 | k+1=>fun l=>(ei x0 k l).bind fun y=>fc k y.1 y.2
theorem Step.part {x0 x x':az} {k:Nat} {s s1 s2:Option (List Int)} (h1:Step (ei x0 k) s s1 x) (h2:Step (fc k x) s1 s2 x'):Step (ei x0 (k+1)) s s2 x':=by
 obtain ⟨e1,v1⟩:=h1;obtain ⟨e2,v2⟩:=h2;cases s with
 | none=>subst e1;subst e2;exact Step.none _ _
 | some l=>
   simp only [Option.bind_some] at e1 v1;cases hp:ei x0 k l with
   | none=>
     rw [hp] at e1;subst e1;subst e2;exact Step.fail (by simp [ei,hp]) _
   | some y=>
     obtain ⟨y,l1⟩:=y;rw [hp] at e1;have ha:=v1 y l1 hp;subst e1 ha;simp only [Option.map_some,Option.bind_some] at e2 v2;cases hq:fc k x l1 with
     | none=>
       rw [hq] at e2;subst e2;exact Step.fail (by simp [ei,hp,hq]) _
     | some z=>
       obtain ⟨z,l2⟩:=z;rw [hq] at e2;have hb:=v2 z l2 hq;subst e2 hb;exact Step.some (by simp [ei,hp,hq])
theorem ss (w:World) (g R G P o:Nat) (s:Option (List Int)) (h:GtR w g R G s) (B0 B1:Nat) (h0:w.heap[B0]?=some (.cells #[.pointer (some ⟨g,0,none⟩)] 142 (0,0))) (h1:w.heap[B1]?=some (.cells #[.pointer (some ⟨P,o,none⟩)] 261 (0,0)))
 (x:az) (hx:x.Ok) (hold:w.rangeAt P o x.cells) (hth:w.there P o 16) (hP:P≠g∧P≠R∧P≠G) :
 Calls Tryz.prog 202 #[.pointer (some ⟨B0,0,none⟩),.pointer (some ⟨B1,0,none⟩)] w fun e w'=>e = .returned (.tuple #[])∧aN w g R G P o 16 s (fc 0 x) az.cells az.Ok w':=by
 have H:=yA (h.below (yH _ _).drew);have HX:=yA hx;have HO:=yA hold;have HTH:=yA hth;have HP:=yA hP;have p0:=am h0;have p1:=am h1;clear h h0 h1 hx hold hth hP;go_enter Tryz.func202,Tryz.ntmps202
 go_still_tail 4,(by kernel_rfl)
 change wpList _ _ _ _ _ w.drew
 go_wp2_with fail
 refine (wE w.drew g R G P o s H.out [x.i0,x.i1,x.i2,x.i3,x.i4,x.i5,x.i6,x.i7] (cS (A:=[]) (B:=[.int .u8 x.i0,.int .u8 x.i1,.int .u8 x.i2,.int .u8 x.i3,.int .u8 x.i4,.int .u8 x.i5,.int .u8 x.i6,.int .u8 x.i7]) (C:=[.int .i16 x.fx,.int .i16 x.fy,.int .i16 x.tx,.int .i16 x.ty,.int .u8 x.seats,.int .u8 x.classes,.int .i64 x.base,.int .i64 x.ttl]) HO.out) (⟨rfl,by intro z hz;have h:=HX.out.id;simp only [bT] at h;simp only [List.mem_cons,List.not_mem_nil,or_false] at hz;rcases hz with rfl | rfl | rfl | rfl | rfl | rfl | rfl | rfl <;> omega⟩) (aI HTH.out 0 8 (by omega)) HP.out).mono ?_;rintro e w2 ⟨rfl,hb2⟩;have HE:=yA (show aN w g R G P o 16 s (fc 0 x) az.cells az.Ok w2 from aN.after (av.of_keep (Keep.drew (fun _=>False) w) (fun _ h=>h.elim)) (aN.lift (w:=w.drew) (w':=w2) (g:=g) (R:=R) (G:=G) (P:=P) (o:=o) (s:=s) (p:=(bM 8)) (f:=cellsOf ai) (ok:=(fun d=>d.length=8∧Byt d)) (F:=az.cells) (Ok:=az.Ok) [] [.int .u8 x.i0,.int .u8 x.i1,.int .u8 x.i2,.int .u8 x.i3,.int .u8 x.i4,.int .u8 x.i5,.int .u8 x.i6,.int .u8 x.i7] [.int .i16 x.fx,.int .i16 x.fy,.int .i16 x.tx,.int .i16 x.ty,.int .u8 x.seats,.int .u8 x.classes,.int .i64 x.base,.int .i64 x.ttl] (fun d=>({ x with i0:=d.getD 0 0,i1:=d.getD 1 0,i2:=d.getD 2 0,i3:=d.getD 3 0,i4:=d.getD 4 0,i5:=d.getD 5 0,i6:=d.getD 6 0,i7:=d.getD 7 0 }:az)) (show w.drew.rangeAt P o x.cells from HO.out) (fun y hy=>by rw [aG,hy.1];rfl) (fun y hy=>by obtain ⟨i0,i1,i2,i3,i4,i5,i6,i7,rfl⟩:=gN hy.1;rfl) (fun y hy=>by obtain ⟨i0,i1,i2,i3,i4,i5,i6,i7,rfl⟩:=gN hy.1;exact ⟨⟨hy.2 _ (by simp),hy.2 _ (by simp),hy.2 _ (by simp),hy.2 _ (by simp),hy.2 _ (by simp),hy.2 _ (by simp),hy.2 _ (by simp),hy.2 _ (by simp)⟩,HX.out.from_,HX.out.to_,HX.out.seats,HX.out.classes,HX.out.base,HX.out.ttl⟩) rfl hb2));clear hb2;go_wp2_with fail
 exact z9 (v:=.tuple #[]) (by simp [results,Tryz.results202,go_sem]) rfl ⟨rfl,HE.out⟩
theorem su (w:World) (g R G P o:Nat) (s:Option (List Int)) (h:GtR w g R G s) (B0 B1:Nat) (h0:w.heap[B0]?=some (.cells #[.pointer (some ⟨g,0,none⟩)] 142 (0,0))) (h1:w.heap[B1]?=some (.cells #[.pointer (some ⟨P,o,none⟩)] 261 (0,0)))
 (x:az) (hx:x.Ok) (hold:w.rangeAt P o x.cells) (hth:w.there P o 16) (hP:P≠g∧P≠R∧P≠G) :
 Calls Tryz.prog 203 #[.pointer (some ⟨B0,0,none⟩),.pointer (some ⟨B1,0,none⟩)] w fun e w'=>e = .returned (.tuple #[])∧aN w g R G P o 16 s (fc 1 x) az.cells az.Ok w':=by
 have H:=yA (h.below (yH _ _).drew);have HX:=yA hx;have HO:=yA hold;have HTH:=yA hth;have HP:=yA hP;have p0:=am h0;have p1:=am h1;clear h h0 h1 hx hold hth hP;go_enter Tryz.func203,Tryz.ntmps203
 go_still_tail 4,(by kernel_rfl)
 change wpList _ _ _ _ _ w.drew
 go_wp2_with fail
 refine (lm w.drew g R G P (o+8) s H.out (x.fx,x.fy) (cS (A:=[.int .u8 x.i0,.int .u8 x.i1,.int .u8 x.i2,.int .u8 x.i3,.int .u8 x.i4,.int .u8 x.i5,.int .u8 x.i6,.int .u8 x.i7]) (B:=[.int .i16 x.fx,.int .i16 x.fy]) (C:=[.int .i16 x.tx,.int .i16 x.ty,.int .u8 x.seats,.int .u8 x.classes,.int .i64 x.base,.int .i64 x.ttl]) HO.out) (HX.out.from_) (aI HTH.out 8 2 (by omega)) HP.out).mono ?_;rintro e w2 ⟨rfl,hb2⟩;have HE:=yA (show aN w g R G P o 16 s (fc 1 x) az.cells az.Ok w2 from aN.after (av.of_keep (Keep.drew (fun _=>False) w) (fun _ h=>h.elim)) (aN.lift (w:=w.drew) (w':=w2) (g:=g) (R:=R) (G:=G) (P:=P) (o:=o) (s:=s) (p:=cG) (f:=fun x=>[.int .i16 x.1,.int .i16 x.2]) (ok:=(fun x=>bc x.1∧bc x.2)) (F:=az.cells) (Ok:=az.Ok) [.int .u8 x.i0,.int .u8 x.i1,.int .u8 x.i2,.int .u8 x.i3,.int .u8 x.i4,.int .u8 x.i5,.int .u8 x.i6,.int .u8 x.i7] [.int .i16 x.fx,.int .i16 x.fy] [.int .i16 x.tx,.int .i16 x.ty,.int .u8 x.seats,.int .u8 x.classes,.int .i64 x.base,.int .i64 x.ttl] (fun d=>({ x with fx:=d.1,fy:=d.2 }:az)) (show w.drew.rangeAt P o x.cells from HO.out) (fun y hy=>rfl) (fun y hy=>rfl) (fun y hy=>⟨HX.out.id,hy,HX.out.to_,HX.out.seats,HX.out.classes,HX.out.base,HX.out.ttl⟩) rfl hb2));clear hb2;go_wp2_with fail
 exact z9 (v:=.tuple #[]) (by simp [results,Tryz.results203,go_sem]) rfl ⟨rfl,HE.out⟩
theorem sw (w:World) (g R G P o:Nat) (s:Option (List Int)) (h:GtR w g R G s) (B0 B1:Nat) (h0:w.heap[B0]?=some (.cells #[.pointer (some ⟨g,0,none⟩)] 142 (0,0))) (h1:w.heap[B1]?=some (.cells #[.pointer (some ⟨P,o,none⟩)] 261 (0,0)))
 (x:az) (hx:x.Ok) (hold:w.rangeAt P o x.cells) (hth:w.there P o 16) (hP:P≠g∧P≠R∧P≠G) :
 Calls Tryz.prog 204 #[.pointer (some ⟨B0,0,none⟩),.pointer (some ⟨B1,0,none⟩)] w fun e w'=>e = .returned (.tuple #[])∧aN w g R G P o 16 s (fc 2 x) az.cells az.Ok w':=by
 have H:=yA (h.below (yH _ _).drew);have HX:=yA hx;have HO:=yA hold;have HTH:=yA hth;have HP:=yA hP;have p0:=am h0;have p1:=am h1;clear h h0 h1 hx hold hth hP;go_enter Tryz.func204,Tryz.ntmps204
 go_still_tail 4,(by kernel_rfl)
 change wpList _ _ _ _ _ w.drew
 go_wp2_with fail
 refine (lm w.drew g R G P (o+10) s H.out (x.tx,x.ty) (cS (A:=[.int .u8 x.i0,.int .u8 x.i1,.int .u8 x.i2,.int .u8 x.i3,.int .u8 x.i4,.int .u8 x.i5,.int .u8 x.i6,.int .u8 x.i7,.int .i16 x.fx,.int .i16 x.fy]) (B:=[.int .i16 x.tx,.int .i16 x.ty]) (C:=[.int .u8 x.seats,.int .u8 x.classes,.int .i64 x.base,.int .i64 x.ttl]) HO.out) (HX.out.to_) (aI HTH.out 10 2 (by omega)) HP.out).mono ?_;rintro e w2 ⟨rfl,hb2⟩;have HE:=yA (show aN w g R G P o 16 s (fc 2 x) az.cells az.Ok w2 from aN.after (av.of_keep (Keep.drew (fun _=>False) w) (fun _ h=>h.elim)) (aN.lift (w:=w.drew) (w':=w2) (g:=g) (R:=R) (G:=G) (P:=P) (o:=o) (s:=s) (p:=cG) (f:=fun x=>[.int .i16 x.1,.int .i16 x.2]) (ok:=(fun x=>bc x.1∧bc x.2)) (F:=az.cells) (Ok:=az.Ok) [.int .u8 x.i0,.int .u8 x.i1,.int .u8 x.i2,.int .u8 x.i3,.int .u8 x.i4,.int .u8 x.i5,.int .u8 x.i6,.int .u8 x.i7,.int .i16 x.fx,.int .i16 x.fy] [.int .i16 x.tx,.int .i16 x.ty] [.int .u8 x.seats,.int .u8 x.classes,.int .i64 x.base,.int .i64 x.ttl] (fun d=>({ x with tx:=d.1,ty:=d.2 }:az)) (show w.drew.rangeAt P o x.cells from HO.out) (fun y hy=>rfl) (fun y hy=>rfl) (fun y hy=>⟨HX.out.id,HX.out.from_,hy,HX.out.seats,HX.out.classes,HX.out.base,HX.out.ttl⟩) rfl hb2));clear hb2;go_wp2_with fail
 exact z9 (v:=.tuple #[]) (by simp [results,Tryz.results204,go_sem]) rfl ⟨rfl,HE.out⟩
theorem sx (w:World) (g R G P o:Nat) (s:Option (List Int)) (h:GtR w g R G s) (B0 B1:Nat) (h0:w.heap[B0]?=some (.cells #[.pointer (some ⟨g,0,none⟩)] 142 (0,0))) (h1:w.heap[B1]?=some (.cells #[.pointer (some ⟨P,o,none⟩)] 261 (0,0)))
 (x:az) (hx:x.Ok) (hold:w.rangeAt P o x.cells) (hth:w.there P o 16) (hP:P≠g∧P≠R∧P≠G) :
 Calls Tryz.prog 205 #[.pointer (some ⟨B0,0,none⟩),.pointer (some ⟨B1,0,none⟩)] w fun e w'=>e = .returned (.tuple #[])∧aN w g R G P o 16 s (fc 3 x) az.cells az.Ok w':=by
 have H:=yA (h.below (yH _ _).drew);have HX:=yA hx;have HO:=yA hold;have HTH:=yA hth;have HP:=yA hP;have p0:=am h0;have p1:=am h1;clear h h0 h1 hx hold hth hP;go_enter Tryz.func205,Tryz.ntmps205
 go_still_tail 4,(by kernel_rfl)
 change wpList _ _ _ _ _ w.drew
 go_wp2_with fail
 refine (jc w.drew g R G P (o+12) s H.out x.seats (cS (A:=[.int .u8 x.i0,.int .u8 x.i1,.int .u8 x.i2,.int .u8 x.i3,.int .u8 x.i4,.int .u8 x.i5,.int .u8 x.i6,.int .u8 x.i7,.int .i16 x.fx,.int .i16 x.fy,.int .i16 x.tx,.int .i16 x.ty]) (B:=[.int .u8 x.seats]) (C:=[.int .u8 x.classes,.int .i64 x.base,.int .i64 x.ttl]) HO.out) (HX.out.seats) (aI HTH.out 12 1 (by omega)) HP.out).mono ?_;rintro e w2 ⟨rfl,hb2⟩;have HE:=yA (show aN w g R G P o 16 s (fc 3 x) az.cells az.Ok w2 from aN.after (av.of_keep (Keep.drew (fun _=>False) w) (fun _ h=>h.elim)) (aN.lift (w:=w.drew) (w':=w2) (g:=g) (R:=R) (G:=G) (P:=P) (o:=o) (s:=s) (p:=ej) (f:=fun x=>[.int .u8 x]) (ok:=bT) (F:=az.cells) (Ok:=az.Ok) [.int .u8 x.i0,.int .u8 x.i1,.int .u8 x.i2,.int .u8 x.i3,.int .u8 x.i4,.int .u8 x.i5,.int .u8 x.i6,.int .u8 x.i7,.int .i16 x.fx,.int .i16 x.fy,.int .i16 x.tx,.int .i16 x.ty] [.int .u8 x.seats] [.int .u8 x.classes,.int .i64 x.base,.int .i64 x.ttl] (fun d=>({ x with seats:=d }:az)) (show w.drew.rangeAt P o x.cells from HO.out) (fun y hy=>rfl) (fun y hy=>rfl) (fun y hy=>⟨HX.out.id,HX.out.from_,HX.out.to_,hy,HX.out.classes,HX.out.base,HX.out.ttl⟩) rfl hb2));clear hb2;go_wp2_with fail
 exact z9 (v:=.tuple #[]) (by simp [results,Tryz.results205,go_sem]) rfl ⟨rfl,HE.out⟩
theorem sy (w:World) (g R G P o:Nat) (s:Option (List Int)) (h:GtR w g R G s) (B0 B1:Nat) (h0:w.heap[B0]?=some (.cells #[.pointer (some ⟨g,0,none⟩)] 142 (0,0))) (h1:w.heap[B1]?=some (.cells #[.pointer (some ⟨P,o,none⟩)] 261 (0,0)))
 (x:az) (hx:x.Ok) (hold:w.rangeAt P o x.cells) (hth:w.there P o 16) (hP:P≠g∧P≠R∧P≠G) :
 Calls Tryz.prog 206 #[.pointer (some ⟨B0,0,none⟩),.pointer (some ⟨B1,0,none⟩)] w fun e w'=>e = .returned (.tuple #[])∧aN w g R G P o 16 s (fc 4 x) az.cells az.Ok w':=by
 have H:=yA (h.below (yH _ _).drew);have HX:=yA hx;have HO:=yA hold;have HTH:=yA hth;have HP:=yA hP;have p0:=am h0;have p1:=am h1;clear h h0 h1 hx hold hth hP;go_enter Tryz.func206,Tryz.ntmps206
 go_still_tail 4,(by kernel_rfl)
 change wpList _ _ _ _ _ w.drew
 go_wp2_with fail
 refine (jc w.drew g R G P (o+13) s H.out x.classes (cS (A:=[.int .u8 x.i0,.int .u8 x.i1,.int .u8 x.i2,.int .u8 x.i3,.int .u8 x.i4,.int .u8 x.i5,.int .u8 x.i6,.int .u8 x.i7,.int .i16 x.fx,.int .i16 x.fy,.int .i16 x.tx,.int .i16 x.ty,.int .u8 x.seats]) (B:=[.int .u8 x.classes]) (C:=[.int .i64 x.base,.int .i64 x.ttl]) HO.out) (HX.out.classes) (aI HTH.out 13 1 (by omega)) HP.out).mono ?_;rintro e w2 ⟨rfl,hb2⟩;have HE:=yA (show aN w g R G P o 16 s (fc 4 x) az.cells az.Ok w2 from aN.after (av.of_keep (Keep.drew (fun _=>False) w) (fun _ h=>h.elim)) (aN.lift (w:=w.drew) (w':=w2) (g:=g) (R:=R) (G:=G) (P:=P) (o:=o) (s:=s) (p:=ej) (f:=fun x=>[.int .u8 x]) (ok:=bT) (F:=az.cells) (Ok:=az.Ok) [.int .u8 x.i0,.int .u8 x.i1,.int .u8 x.i2,.int .u8 x.i3,.int .u8 x.i4,.int .u8 x.i5,.int .u8 x.i6,.int .u8 x.i7,.int .i16 x.fx,.int .i16 x.fy,.int .i16 x.tx,.int .i16 x.ty,.int .u8 x.seats] [.int .u8 x.classes] [.int .i64 x.base,.int .i64 x.ttl] (fun d=>({ x with classes:=d }:az)) (show w.drew.rangeAt P o x.cells from HO.out) (fun y hy=>rfl) (fun y hy=>rfl) (fun y hy=>⟨HX.out.id,HX.out.from_,HX.out.to_,HX.out.seats,hy,HX.out.base,HX.out.ttl⟩) rfl hb2));clear hb2;go_wp2_with fail
 exact z9 (v:=.tuple #[]) (by simp [results,Tryz.results206,go_sem]) rfl ⟨rfl,HE.out⟩
theorem sA (w:World) (g R G P o:Nat) (s:Option (List Int)) (h:GtR w g R G s) (B0 B1:Nat) (h0:w.heap[B0]?=some (.cells #[.pointer (some ⟨g,0,none⟩)] 142 (0,0))) (h1:w.heap[B1]?=some (.cells #[.pointer (some ⟨P,o,none⟩)] 261 (0,0)))
 (x:az) (hx:x.Ok) (hold:w.rangeAt P o x.cells) (hth:w.there P o 16) (hP:P≠g∧P≠R∧P≠G) :
 Calls Tryz.prog 207 #[.pointer (some ⟨B0,0,none⟩),.pointer (some ⟨B1,0,none⟩)] w fun e w'=>e = .returned (.tuple #[])∧aN w g R G P o 16 s (fc 5 x) az.cells az.Ok w':=by
 have H:=yA (h.below (yH _ _).drew);have HX:=yA hx;have HO:=yA hold;have HTH:=yA hth;have HP:=yA hP;have p0:=am h0;have p1:=am h1;clear h h0 h1 hx hold hth hP;go_enter Tryz.func207,Tryz.ntmps207
 go_still_tail 4,(by kernel_rfl)
 change wpList _ _ _ _ _ w.drew
 go_wp2_with fail
 refine (jb w.drew g R G P (o+14) s H.out x.base (cS (A:=[.int .u8 x.i0,.int .u8 x.i1,.int .u8 x.i2,.int .u8 x.i3,.int .u8 x.i4,.int .u8 x.i5,.int .u8 x.i6,.int .u8 x.i7,.int .i16 x.fx,.int .i16 x.fy,.int .i16 x.tx,.int .i16 x.ty,.int .u8 x.seats,.int .u8 x.classes]) (B:=[.int .i64 x.base]) (C:=[.int .i64 x.ttl]) HO.out) (HX.out.base) (aI HTH.out 14 1 (by omega)) HP.out).mono ?_;rintro e w2 ⟨rfl,hb2⟩;have HE:=yA (show aN w g R G P o 16 s (fc 5 x) az.cells az.Ok w2 from aN.after (av.of_keep (Keep.drew (fun _=>False) w) (fun _ h=>h.elim)) (aN.lift (w:=w.drew) (w':=w2) (g:=g) (R:=R) (G:=G) (P:=P) (o:=o) (s:=s) (p:=dc) (f:=fun x=>[.int .i64 x]) (ok:=ar) (F:=az.cells) (Ok:=az.Ok) [.int .u8 x.i0,.int .u8 x.i1,.int .u8 x.i2,.int .u8 x.i3,.int .u8 x.i4,.int .u8 x.i5,.int .u8 x.i6,.int .u8 x.i7,.int .i16 x.fx,.int .i16 x.fy,.int .i16 x.tx,.int .i16 x.ty,.int .u8 x.seats,.int .u8 x.classes] [.int .i64 x.base] [.int .i64 x.ttl] (fun d=>({ x with base:=d }:az)) (show w.drew.rangeAt P o x.cells from HO.out) (fun y hy=>rfl) (fun y hy=>rfl) (fun y hy=>⟨HX.out.id,HX.out.from_,HX.out.to_,HX.out.seats,HX.out.classes,hy,HX.out.ttl⟩) rfl hb2));clear hb2;go_wp2_with fail
 exact z9 (v:=.tuple #[]) (by simp [results,Tryz.results207,go_sem]) rfl ⟨rfl,HE.out⟩
theorem sB (w:World) (g R G P o:Nat) (s:Option (List Int)) (h:GtR w g R G s) (B0 B1:Nat) (h0:w.heap[B0]?=some (.cells #[.pointer (some ⟨g,0,none⟩)] 142 (0,0))) (h1:w.heap[B1]?=some (.cells #[.pointer (some ⟨P,o,none⟩)] 261 (0,0)))
 (x:az) (hx:x.Ok) (hold:w.rangeAt P o x.cells) (hth:w.there P o 16) (hP:P≠g∧P≠R∧P≠G) :
 Calls Tryz.prog 208 #[.pointer (some ⟨B0,0,none⟩),.pointer (some ⟨B1,0,none⟩)] w fun e w'=>e = .returned (.tuple #[])∧aN w g R G P o 16 s (fc 6 x) az.cells az.Ok w':=by
 have H:=yA (h.below (yH _ _).drew);have HX:=yA hx;have HO:=yA hold;have HTH:=yA hth;have HP:=yA hP;have p0:=am h0;have p1:=am h1;clear h h0 h1 hx hold hth hP;go_enter Tryz.func208,Tryz.ntmps208
 go_still_tail 4,(by kernel_rfl)
 change wpList _ _ _ _ _ w.drew
 go_wp2_with fail
 refine (jb w.drew g R G P (o+15) s H.out x.ttl (cS (A:=[.int .u8 x.i0,.int .u8 x.i1,.int .u8 x.i2,.int .u8 x.i3,.int .u8 x.i4,.int .u8 x.i5,.int .u8 x.i6,.int .u8 x.i7,.int .i16 x.fx,.int .i16 x.fy,.int .i16 x.tx,.int .i16 x.ty,.int .u8 x.seats,.int .u8 x.classes,.int .i64 x.base]) (B:=[.int .i64 x.ttl]) (C:=[]) HO.out) (HX.out.ttl) (aI HTH.out 15 1 (by omega)) HP.out).mono ?_;rintro e w2 ⟨rfl,hb2⟩;have HE:=yA (show aN w g R G P o 16 s (fc 6 x) az.cells az.Ok w2 from aN.after (av.of_keep (Keep.drew (fun _=>False) w) (fun _ h=>h.elim)) (aN.lift (w:=w.drew) (w':=w2) (g:=g) (R:=R) (G:=G) (P:=P) (o:=o) (s:=s) (p:=dc) (f:=fun x=>[.int .i64 x]) (ok:=ar) (F:=az.cells) (Ok:=az.Ok) [.int .u8 x.i0,.int .u8 x.i1,.int .u8 x.i2,.int .u8 x.i3,.int .u8 x.i4,.int .u8 x.i5,.int .u8 x.i6,.int .u8 x.i7,.int .i16 x.fx,.int .i16 x.fy,.int .i16 x.tx,.int .i16 x.ty,.int .u8 x.seats,.int .u8 x.classes,.int .i64 x.base] [.int .i64 x.ttl] [] (fun d=>({ x with ttl:=d }:az)) (show w.drew.rangeAt P o x.cells from HO.out) (fun y hy=>rfl) (fun y hy=>rfl) (fun y hy=>⟨HX.out.id,HX.out.from_,HX.out.to_,HX.out.seats,HX.out.classes,HX.out.base,hy⟩) rfl hb2));clear hb2;go_wp2_with fail
 exact z9 (v:=.tuple #[]) (by simp [results,Tryz.results208,go_sem]) rfl ⟨rfl,HE.out⟩
theorem sC (w:World) (g R G P o:Nat) (s:Option (List Int)) (h:GtR w g R G s) (B0 B1:Nat) (h0:w.heap[B0]?=some (.cells #[.pointer (some ⟨g,0,none⟩)] 142 (0,0))) (h1:w.heap[B1]?=some (.cells #[.pointer (some ⟨P,o,none⟩)] 261 (0,0)))
 (x:az) (hx:x.Ok) (hold:w.rangeAt P o x.cells) (hth:w.there P o 16) (hP:P≠g∧P≠R∧P≠G) (k fn:Nat) (hg:[202,203,204,205,206,207,208][k]?=some fn) :
 Calls Tryz.prog fn #[.pointer (some ⟨B0,0,none⟩),.pointer (some ⟨B1,0,none⟩)] w fun e w'=>e = .returned (.tuple #[])∧aN w g R G P o 16 s (fc k x) az.cells az.Ok w':=by
 match k,hg with
 | 0,hg=>simp at hg;subst hg;exact ss w g R G P o s h B0 B1 h0 h1 x hx hold hth hP
 | 1,hg=>simp at hg;subst hg;exact su w g R G P o s h B0 B1 h0 h1 x hx hold hth hP
 | 2,hg=>simp at hg;subst hg;exact sw w g R G P o s h B0 B1 h0 h1 x hx hold hth hP
 | 3,hg=>simp at hg;subst hg;exact sx w g R G P o s h B0 B1 h0 h1 x hx hold hth hP
 | 4,hg=>simp at hg;subst hg;exact sy w g R G P o s h B0 B1 h0 h1 x hx hold hth hP
 | 5,hg=>simp at hg;subst hg;exact sA w g R G P o s h B0 B1 h0 h1 x hx hold hth hP
 | 6,hg=>simp at hg;subst hg;exact sB w g R G P o s h B0 B1 h0 h1 x hx hold hth hP
 | k+7,hg=>simp at hg
end Go.Proofs.YtcaicgipibcicaaGreat
