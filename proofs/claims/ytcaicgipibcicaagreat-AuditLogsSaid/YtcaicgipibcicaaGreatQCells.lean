/- Chapter 13: who fits whom. -/
import Derived.Test.YtcaicgipibcicaaGreatQFit5
import Derived.Deep.WholeRow
set_option maxRecDepth 100000
set_option maxHeartbeats 4000000
set_option linter.unusedSimpArgs false
set_option linter.unusedVariables false
open Go renaming cell_regrown→yR
open Go.Lib renaming hid→yA
open Int renaming eq_ofNat_of_zero_le→zV
open List renaming getElem?_eq_some_iff→yD
open Option.some renaming injEq→zL
namespace Go.Proofs.YtcaicgipibcicaaGreat
open Go.RowKit Go.Sort
theorem tf (r:az) (d:gQ):(eN r d==0)=jr r d:=by
 unfold eN jr;by_cases h1:d.cls≤7 <;> cases h2:aH r.classes d.cls <;> by_cases h3:r.seats≤d.seats <;> by_cases h4:dW d.ax d.ay r.fx r.fy≤d.radius <;> simp [h1,h3,h4] <;> omega
theorem fits_any (w:World) (r:az) (d:gQ) (hr:r.Ok) (hd:d.Ok):Calls Tryz.prog 28 #[.agg #[.int .u8 r.i0,.int .u8 r.i1,.int .u8 r.i2,.int .u8 r.i3,.int .u8 r.i4,.int .u8 r.i5,.int .u8 r.i6,.int .u8 r.i7,.int .i16 r.fx,.int .i16 r.fy,.int .i16 r.tx,.int .i16 r.ty,.int .u8 r.seats,.int .u8 r.classes,.int .i64 r.base,.int .i64 r.ttl],.agg #[.int .u8 d.i0,.int .u8 d.i1,.int .u8 d.i2,.int .u8 d.i3,.int .u8 d.i4,.int .u8 d.i5,.int .u8 d.i6,.int .u8 d.i7,.int .i16 d.ax,.int .i16 d.ay,.int .u8 d.seats,.int .u8 d.cls,.int .i64 d.radius]] w fun e w'=>e = .returned (.bool (jr r d))∧Below w.heap.size w w':=by
 have HB:=yA (((Below.refl w.heap.size w).alloc (Nat.le_refl _) (.cells #[.int .u8 r.i0,.int .u8 r.i1,.int .u8 r.i2,.int .u8 r.i3,.int .u8 r.i4,.int .u8 r.i5,.int .u8 r.i6,.int .u8 r.i7,.int .i16 r.fx,.int .i16 r.fy,.int .i16 r.tx,.int .i16 r.ty,.int .u8 r.seats,.int .u8 r.classes,.int .i64 r.base,.int .i64 r.ttl] 77)).alloc (by simp) (.cells #[.int .u8 d.i0,.int .u8 d.i1,.int .u8 d.i2,.int .u8 d.i3,.int .u8 d.i4,.int .u8 d.i5,.int .u8 d.i6,.int .u8 d.i7,.int .i16 d.ax,.int .i16 d.ay,.int .u8 d.seats,.int .u8 d.cls,.int .i64 d.radius] 81));have HA:=yA (fun w=>p9 w r d hr hd);have HE:=yA (tf r d);go_enter Tryz.func28,Tryz.ntmps28
 go_wp2_with fail
 generalize (w.alloc (.cells #[.int .u8 r.i0,.int .u8 r.i1,.int .u8 r.i2,.int .u8 r.i3,.int .u8 r.i4,.int .u8 r.i5,.int .u8 r.i6,.int .u8 r.i7,.int .i16 r.fx,.int .i16 r.fy,.int .i16 r.tx,.int .i16 r.ty,.int .u8 r.seats,.int .u8 r.classes,.int .i64 r.base,.int .i64 r.ttl] 77)).alloc (.cells #[.int .u8 d.i0,.int .u8 d.i1,.int .u8 d.i2,.int .u8 d.i3,.int .u8 d.i4,.int .u8 d.i5,.int .u8 d.i6,.int .u8 d.i7,.int .i16 d.ax,.int .i16 d.ay,.int .u8 d.seats,.int .u8 d.cls,.int .i64 d.radius] 81)=W at *;refine (HA.out W).mono ?_;rintro e w1 ⟨rfl,hb1⟩;have HB1:=yA (dN HB.out hb1);clear hb1;generalize eN r d=A at *;go_wp2_with fail
 go_ret
 exact ⟨by rw [←HE.out];rfl,HB1.out⟩
def cx (n:Int):Bool:=decide (0≤n∧n≤1099511627776)
theorem mL (w:World) (n:Int):Calls Tryz.prog 128 #[.int .i64 n] w fun e w'=>e = .returned (.bool (cx n))∧w=w':=by
 by_cases h1:0≤n
 · by_cases h2:n≤1099511627776
   · rw [show cx n=true by simp [cx,h1,h2]]
     go_enter Tryz.func128,Tryz.ntmps128
     go_wp2_with fail
     go_ret
     exact ⟨rfl,rfl⟩
   · rw [show cx n=false by simp [cx,h2]]
     go_enter Tryz.func128,Tryz.ntmps128
     go_wp2_with fail
     go_ret
     exact ⟨rfl,rfl⟩
 · rw [show cx n=false by simp [cx,h1]]
   go_enter Tryz.func128,Tryz.ntmps128
   go_wp2_with fail
   go_ret
   exact ⟨rfl,rfl⟩
theorem kW (w:World) (n:Int):Calls Tryz.prog 98 #[.int .i64 n] w fun e w'=>e = .returned (.bool (cx n))∧w=w':=by
 by_cases h1:0≤n
 · by_cases h2:n≤1099511627776
   · rw [show cx n=true by simp [cx,h1,h2]]
     go_enter Tryz.func98,Tryz.ntmps98
     go_wp2_with fail
     go_ret
     exact ⟨rfl,rfl⟩
   · rw [show cx n=false by simp [cx,h2]]
     go_enter Tryz.func98,Tryz.ntmps98
     go_wp2_with fail
     go_ret
     exact ⟨rfl,rfl⟩
 · rw [show cx n=false by simp [cx,h1]]
   go_enter Tryz.func98,Tryz.ntmps98
   go_wp2_with fail
   go_ret
   exact ⟨rfl,rfl⟩
theorem kp (w:World) (n:Int) (h1:0≤n) (h2:n≤4611686018427387903):Calls Tryz.prog 190 #[.int .i64 n] w fun e w'=>e = .returned (.bool true)∧w=w':=by
 go_enter Tryz.func190,Tryz.ntmps190
 go_wp2_with fail
 go_ret
 exact ⟨rfl,rfl⟩
theorem oa (w:World) (n:Int) (h1:0≤n):Calls Tryz.prog 191 #[.int .i64 n] w fun e w'=>e = .returned (.tuple #[.int .i64 n,.bool true])∧w=w':=by
 go_enter Tryz.func191,Tryz.ntmps191
 go_wp2_with fail
 go_ret2
 exact ⟨rfl,rfl⟩
theorem mM (n:Nat) (h:n<18446744073709551616):IntKind.u64.wrap (n:Int)=n:=by
 unfold IntKind.wrap;simp [IntKind.bits,IntKind.signed];omega
theorem p8 (w:World) (a b:Nat) (h1:a<4294967296) (h2:b<4294967296):Calls Tryz.prog 192 #[.int .u64 a,.int .u64 b] w fun e w'=>e = .returned (.tuple #[.int .u64 0,.int .u64 ((a*b:Nat):Int)])∧w=w':=by
 have hlt:a*b<18446744073709551616:=by
  have:=Nat.mul_le_mul (show a≤4294967295 by omega) (show b≤4294967295 by omega);omega
 have ha:bits BinOp.and IntKind.u64 (a:Int) 4294967295=a:=by
  have:=u64_and_nat a 4294967295 (by omega) (by omega);rw [show ((4294967295:Nat):Int)=4294967295 from rfl] at this;rw [this,show (4294967295:Nat)=2 ^ 32 - 1 from rfl,Nat.and_two_pow_sub_one_eq_mod,Nat.mod_eq_of_lt (by omega)]
 have hb:bits BinOp.and IntKind.u64 (b:Int) 4294967295=b:=by
  have:=u64_and_nat b 4294967295 (by omega) (by omega);rw [show ((4294967295:Nat):Int)=4294967295 from rfl] at this;rw [this,show (4294967295:Nat)=2 ^ 32 - 1 from rfl,Nat.and_two_pow_sub_one_eq_mod,Nat.mod_eq_of_lt (by omega)]
 have hda:(a:Int) / 4294967296=0:=by omega
 have hdb:(b:Int) / 4294967296=0:=by omega
 have hw:IntKind.u64.wrap ((a:Int)*(b:Int))=((a*b:Nat):Int):=by
  rw [show (a:Int)*(b:Int)=((a*b:Nat):Int) by simp];exact mM _ hlt
 have hq:a*b / 4294967296<4294967296:=by omega
 go_enter Tryz.func192,Tryz.ntmps192
 go_wp2_with fail
 have hc:(a:Int)*(b:Int) / 4294967296=((a*b / 4294967296:Nat):Int):=by simp
 have hand:bits BinOp.and IntKind.u64 ((a*b / 4294967296:Nat):Int) 4294967295=((a*b / 4294967296:Nat):Int):=by
  have:=u64_and_nat (a*b / 4294967296) 4294967295 (by omega) (by omega);rw [show ((4294967295:Nat):Int)=4294967295 from rfl] at this;rw [this,show (4294967295:Nat)=2 ^ 32 - 1 from rfl,Nat.and_two_pow_sub_one_eq_mod,Nat.mod_eq_of_lt (by omega)]
 have hx:IntKind.u64.wrap ((a:Int)*(b:Int) / 4294967296 / 4294967296+IntKind.u64.wrap (bits BinOp.and IntKind.u64 ((a:Int)*(b:Int) / 4294967296) 4294967295) / 4294967296)=0:=by
  rw [hc,hand,mM _ (by omega)];generalize a*b / 4294967296=c at *;have e:((c:Int) / 4294967296+(c:Int) / 4294967296)=((0:Nat):Int):=by omega
  rw [e,mM 0 (by omega)];rfl
 go_ret2
 refine ⟨?_,rfl⟩
 show Ending.returned (Value.tuple #[.int .u64 _,.int .u64 _])=_
 rw [hx];simp
theorem ua (w:World) (a b:Int) (h1:0≤a) (h2:a≤4294967295) (h3:0≤b) (h4:b≤1073741823):Calls Tryz.prog 172 #[.int .i64 a,.int .i64 b] w fun e w'=>e = .returned (.tuple #[.int .i64 (a*b),.bool true])∧w=w':=by
 obtain ⟨x,rfl⟩:=zV h1;obtain ⟨y,rfl⟩:=zV h3
 have hlt:x*y≤4611686013213704192:=by
  have:=Nat.mul_le_mul (show x≤4294967295 by omega) (show y≤1073741823 by omega);omega
 have HM:=yA (fun w=>p8 w x y (by omega) (by omega));have HXY:=yA (show ((x:Int)*(y:Int))=((x*y:Nat):Int) by simp);have HI1:=yA (fun w=>kp w x h1 (by omega));have HI2:=yA (fun w=>kp w y h3 (by omega));have HA1:=yA (fun w=>oa w x h1);have HA2:=yA (fun w=>oa w y h3);generalize x*y=z at *;go_enter Tryz.func172,Tryz.ntmps172
 go_wp2_with fail
 refine (HI1.out _).mono ?_;rintro e w1 ⟨rfl,rfl⟩;go_wp2_with fail
 refine (HI2.out _).mono ?_;rintro e w1 ⟨rfl,rfl⟩;go_wp2_with fail
 refine (HA1.out _).mono ?_;rintro e w1 ⟨rfl,rfl⟩;go_wp2_with fail
 refine (HA2.out _).mono ?_;rintro e w1 ⟨rfl,rfl⟩;go_wp2_with fail
 refine (HM.out _).mono ?_;rintro e w1 ⟨rfl,rfl⟩;go_wp2_with fail
 go_ret2
 exact ⟨by rw [HXY.out];rfl,rfl⟩
def RdC (w:World) (ao:Option Addr) (xs:List Value):Prop:=
 xs=[]∨∃ b o,ao=some ⟨b,o,none⟩∧∀ j u,xs[j]?=some u→w.cell? ⟨b,o+j,none⟩=some u
theorem RdC.keep {X:Nat→Prop} {w w':World} {ao:Option Addr} {xs:List Value} (hr:RdC w ao xs) (h:Keep X w w') (hx:∀ b o,ao=some ⟨b,o,none⟩→¬ X b):RdC w' ao xs:=by
 rcases hr with h0 | ⟨b,o,rfl,hc⟩
 · exact .inl h0
 · exact .inr ⟨b,o,rfl,fun j u hu=>h.cell (hc j u hu) (hx b o rfl)⟩
theorem RdC.below {w w':World} {ao:Option Addr} {xs:List Value} (hr:RdC w ao xs) (h:Below w.heap.size w w'):RdC w' ao xs:=
 hr.keep (Keep.of_below h (Nat.le_refl _) (fun _=>False)) (fun _ _ _=>id)
theorem RdC.place {w:World} {ao:Option Addr} {xs:List Value} (hr:RdC w ao xs) (h:0<xs.length):∃ b o,ao=some ⟨b,o,none⟩∧∀ j u,xs[j]?=some u→w.cell? ⟨b,o+j,none⟩=some u:=by
 rcases hr with h0 | h1
 · subst h0;simp at h
 · exact h1
def cellsOf {α:Type} (f:α→List Value) (l:List α):List Value:=l.flatMap f
theorem cellsOf_length {α:Type} (f:α→List Value) (k:Nat) (hf:∀ a,(f a).length=k) (l:List α):(cellsOf f l).length=l.length*k:=by
 induction l with
 | nil=>simp [cellsOf]
 | cons a l ih=>simp only [cellsOf,List.flatMap_cons,List.length_append,hf,List.length_cons] at ih ⊢;rw [ih,Nat.add_mul];omega
theorem cq {α:Type} (f:α→List Value) (k:Nat) (hf:∀ a,(f a).length=k) (l:List α):∀ (i:Nat) (x:α),l[i]?=some x→∀ j,j<k→(cellsOf f l)[i*k+j]?=(f x)[j]?:=by
 induction l with
 | nil=>intro i x h;simp at h
 | cons a l ih=>
   intro i x h j hj;simp only [cellsOf,List.flatMap_cons] at ih ⊢;cases i with
   | zero=>
     simp only [List.getElem?_cons_zero,zL] at h;subst h;rw [Nat.zero_mul,Nat.zero_add,List.getElem?_append_left (by rw [hf];exact hj)]
   | succ i=>
     simp only [List.getElem?_cons_succ] at h;rw [List.getElem?_append_right (by rw [hf,Nat.add_mul];omega),hf];rw [show (i+1)*k+j - k=i*k+j by rw [Nat.add_mul];omega];exact ih i x h j hj
theorem gP {α:Type} (f:α→List Value) (l:List α) (x:α):cellsOf f (l++[x])=cellsOf f l++f x:=by simp [cellsOf]
theorem xD {α:Type} {f:α→List Value} {k:Nat} (hf:∀ a,(f a).length=k) {w:World} {b o:Nat} {l:List α} (hr:∀ j u,(cellsOf f l)[j]?=some u→w.cell? ⟨b,o+j,none⟩=some u)
 {i:Nat} {x:α} (hx:l[i]?=some x) (j:Nat) (u:Value) (hu:(f x)[j]?=some u):w.cell? ⟨b,o+i*k+j,none⟩=some u:=by
 have hj:j<k:=by rw [←hf x];exact (yD.1 hu).1
 have:=hr (i*k+j) u (by rw [cq f k hf l i x hx j hj];exact hu);rw [Nat.add_assoc];exact this
theorem ad.cells_length (x:ad):x.cells.length=18:=rfl
theorem ak.cells_length (x:ak):x.cells.length=14:=rfl
theorem ab.cells_length (x:ab):x.cells.length=3:=rfl
theorem ag.cells_length (x:ag):x.cells.length=2:=rfl
theorem bf {α:Type} {f:α→List Value} {k:Nat} (hf:∀ a,(f a).length=k) {w:World} {b o:Nat} {l:List α} (hr:RdC w (some ⟨b,o,none⟩) (cellsOf f l))
 {i:Nat} {x:α} (hx:l[i]?=some x) (j:Nat) (u:Value) (hu:(f x)[j]?=some u):w.cell? ⟨b,o+i*k+j,none⟩=some u:=by
 have hj:j<k:=by rw [←hf x];exact (yD.1 hu).1
 have hl:=cellsOf_length f k hf l;have hi:=(yD.1 hx).1;have hpos:0<(cellsOf f l).length:=by rw [hl];exact Nat.mul_pos (by omega) (by omega)
 obtain ⟨b',o',he,hc⟩:=hr.place hpos;simp only [zL,Addr.mk.injEq,and_true] at he;obtain ⟨rfl,rfl⟩:=he;exact xD hf hc hx j u hu
def aP (n:Int):List Value:=[.int .i64 n]
theorem aT (n:Int):(aP n).length=1:=rfl
theorem dV {w:World} {b o:Nat} {l:List Int} (hr:RdC w (some ⟨b,o,none⟩) (cellsOf aP l)) {i:Nat} {x:Int} (hx:l[i]?=some x):w.cell? ⟨b,o+i,none⟩=some (.int .i64 x):=by
 have:=bf aT hr hx 0 _ rfl
 simpa using this
theorem tg {w:World} {b:Nat} {l:List Int} (hr:RdC w (some ⟨b,0,none⟩) (cellsOf aP l)) {i:Nat} {x:Int} (hx:l[i]?=some x):w.cell? ⟨b,i,none⟩=some (.int .i64 x):=by
 have:=dV hr hx
 simpa using this
theorem xE {w:World} {b o:Nat} {l:List ad} (hr:RdC w (some ⟨b,o,none⟩) (cellsOf ad.cells l)) {i:Nat} {x:ad} (hx:l[i]?=some x) :
 w.cell? ⟨b,o+i*18,none⟩=some (.int .u8 x.r.i0)∧w.cell? ⟨b,o+i*18+1,none⟩=some (.int .u8 x.r.i1)∧w.cell? ⟨b,o+i*18+2,none⟩=some (.int .u8 x.r.i2)∧w.cell? ⟨b,o+i*18+3,none⟩=some (.int .u8 x.r.i3)∧w.cell? ⟨b,o+i*18+4,none⟩=some (.int .u8 x.r.i4)∧w.cell? ⟨b,o+i*18+5,none⟩=some (.int .u8 x.r.i5)∧w.cell? ⟨b,o+i*18+6,none⟩=some (.int .u8 x.r.i6)∧w.cell? ⟨b,o+i*18+7,none⟩=some (.int .u8 x.r.i7)∧w.cell? ⟨b,o+i*18+8,none⟩=some (.int .i16 x.r.fx)∧w.cell? ⟨b,o+i*18+9,none⟩=some (.int .i16 x.r.fy)∧w.cell? ⟨b,o+i*18+10,none⟩=some (.int .i16 x.r.tx)∧w.cell? ⟨b,o+i*18+11,none⟩=some (.int .i16 x.r.ty)∧w.cell? ⟨b,o+i*18+12,none⟩=some (.int .u8 x.r.seats)∧w.cell? ⟨b,o+i*18+13,none⟩=some (.int .u8 x.r.classes)∧w.cell? ⟨b,o+i*18+14,none⟩=some (.int .i64 x.r.base)∧w.cell? ⟨b,o+i*18+15,none⟩=some (.int .i64 x.r.ttl)∧w.cell? ⟨b,o+i*18+16,none⟩=some (.int .i64 x.since)∧w.cell? ⟨b,o+i*18+17,none⟩=some (.int .i64 x.number):=by
 have h:=bf ad.cells_length hr hx;exact ⟨h 0 _ rfl,h 1 _ rfl,h 2 _ rfl,h 3 _ rfl,h 4 _ rfl,h 5 _ rfl,h 6 _ rfl,h 7 _ rfl,h 8 _ rfl,h 9 _ rfl,h 10 _ rfl,h 11 _ rfl,h 12 _ rfl,h 13 _ rfl,h 14 _ rfl,h 15 _ rfl,h 16 _ rfl,h 17 _ rfl⟩
theorem oX {w:World} {b o:Nat} {l:List ad} (hr:RdC w (some ⟨b,o,none⟩) (cellsOf ad.cells l)) {i:Nat} {x:ad} (hx:l[i]?=some x) :
 (∀ (d:Nat) (os:Array Obj),(grow (redrawn w d) os).cell? ⟨b,o+i*18,none⟩=some (.int .u8 x.r.i0))∧(∀ (d:Nat) (os:Array Obj),(grow (redrawn w d) os).cell? ⟨b,o+i*18+1,none⟩=some (.int .u8 x.r.i1))∧(∀ (d:Nat) (os:Array Obj),(grow (redrawn w d) os).cell? ⟨b,o+i*18+2,none⟩=some (.int .u8 x.r.i2))∧(∀ (d:Nat) (os:Array Obj),(grow (redrawn w d) os).cell? ⟨b,o+i*18+3,none⟩=some (.int .u8 x.r.i3))∧(∀ (d:Nat) (os:Array Obj),(grow (redrawn w d) os).cell? ⟨b,o+i*18+4,none⟩=some (.int .u8 x.r.i4))∧(∀ (d:Nat) (os:Array Obj),(grow (redrawn w d) os).cell? ⟨b,o+i*18+5,none⟩=some (.int .u8 x.r.i5))∧(∀ (d:Nat) (os:Array Obj),(grow (redrawn w d) os).cell? ⟨b,o+i*18+6,none⟩=some (.int .u8 x.r.i6))∧(∀ (d:Nat) (os:Array Obj),(grow (redrawn w d) os).cell? ⟨b,o+i*18+7,none⟩=some (.int .u8 x.r.i7))∧(∀ (d:Nat) (os:Array Obj),(grow (redrawn w d) os).cell? ⟨b,o+i*18+8,none⟩=some (.int .i16 x.r.fx))∧(∀ (d:Nat) (os:Array Obj),(grow (redrawn w d) os).cell? ⟨b,o+i*18+9,none⟩=some (.int .i16 x.r.fy))∧(∀ (d:Nat) (os:Array Obj),(grow (redrawn w d) os).cell? ⟨b,o+i*18+10,none⟩=some (.int .i16 x.r.tx))∧(∀ (d:Nat) (os:Array Obj),(grow (redrawn w d) os).cell? ⟨b,o+i*18+11,none⟩=some (.int .i16 x.r.ty))∧(∀ (d:Nat) (os:Array Obj),(grow (redrawn w d) os).cell? ⟨b,o+i*18+12,none⟩=some (.int .u8 x.r.seats))∧(∀ (d:Nat) (os:Array Obj),(grow (redrawn w d) os).cell? ⟨b,o+i*18+13,none⟩=some (.int .u8 x.r.classes))∧(∀ (d:Nat) (os:Array Obj),(grow (redrawn w d) os).cell? ⟨b,o+i*18+14,none⟩=some (.int .i64 x.r.base))∧(∀ (d:Nat) (os:Array Obj),(grow (redrawn w d) os).cell? ⟨b,o+i*18+15,none⟩=some (.int .i64 x.r.ttl))∧(∀ (d:Nat) (os:Array Obj),(grow (redrawn w d) os).cell? ⟨b,o+i*18+16,none⟩=some (.int .i64 x.since))∧(∀ (d:Nat) (os:Array Obj),(grow (redrawn w d) os).cell? ⟨b,o+i*18+17,none⟩=some (.int .i64 x.number)):=by
 obtain ⟨h0,h1,h2,h3,h4,h5,h6,h7,h8,h9,h10,h11,h12,h13,h14,h15,h16,h17⟩:=xE hr hx;exact ⟨yR h0,yR h1,yR h2,yR h3,yR h4,yR h5,yR h6,yR h7,yR h8,yR h9,yR h10,yR h11,yR h12,yR h13,yR h14,yR h15,yR h16,yR h17⟩
theorem th {w:World} {b o:Nat} {l:List ak} (hr:RdC w (some ⟨b,o,none⟩) (cellsOf ak.cells l)) {i:Nat} {x:ak} (hx:l[i]?=some x) :
 w.cell? ⟨b,o+i*14,none⟩=some (.int .u8 x.d.i0)∧w.cell? ⟨b,o+i*14+1,none⟩=some (.int .u8 x.d.i1)∧w.cell? ⟨b,o+i*14+2,none⟩=some (.int .u8 x.d.i2)∧w.cell? ⟨b,o+i*14+3,none⟩=some (.int .u8 x.d.i3)∧w.cell? ⟨b,o+i*14+4,none⟩=some (.int .u8 x.d.i4)∧w.cell? ⟨b,o+i*14+5,none⟩=some (.int .u8 x.d.i5)∧w.cell? ⟨b,o+i*14+6,none⟩=some (.int .u8 x.d.i6)∧w.cell? ⟨b,o+i*14+7,none⟩=some (.int .u8 x.d.i7)∧w.cell? ⟨b,o+i*14+8,none⟩=some (.int .i16 x.d.ax)∧w.cell? ⟨b,o+i*14+9,none⟩=some (.int .i16 x.d.ay)∧w.cell? ⟨b,o+i*14+10,none⟩=some (.int .u8 x.d.seats)∧w.cell? ⟨b,o+i*14+11,none⟩=some (.int .u8 x.d.cls)∧w.cell? ⟨b,o+i*14+12,none⟩=some (.int .i64 x.d.radius)∧w.cell? ⟨b,o+i*14+13,none⟩=some (.int .i64 x.number):=by
 have h:=bf ak.cells_length hr hx;exact ⟨h 0 _ rfl,h 1 _ rfl,h 2 _ rfl,h 3 _ rfl,h 4 _ rfl,h 5 _ rfl,h 6 _ rfl,h 7 _ rfl,h 8 _ rfl,h 9 _ rfl,h 10 _ rfl,h 11 _ rfl,h 12 _ rfl,h 13 _ rfl⟩
theorem tj {w:World} {b o:Nat} {l:List ak} (hr:RdC w (some ⟨b,o,none⟩) (cellsOf ak.cells l)) {i:Nat} {x:ak} (hx:l[i]?=some x) :
 (∀ (d:Nat) (os:Array Obj),(grow (redrawn w d) os).cell? ⟨b,o+i*14,none⟩=some (.int .u8 x.d.i0))∧(∀ (d:Nat) (os:Array Obj),(grow (redrawn w d) os).cell? ⟨b,o+i*14+1,none⟩=some (.int .u8 x.d.i1))∧(∀ (d:Nat) (os:Array Obj),(grow (redrawn w d) os).cell? ⟨b,o+i*14+2,none⟩=some (.int .u8 x.d.i2))∧(∀ (d:Nat) (os:Array Obj),(grow (redrawn w d) os).cell? ⟨b,o+i*14+3,none⟩=some (.int .u8 x.d.i3))∧(∀ (d:Nat) (os:Array Obj),(grow (redrawn w d) os).cell? ⟨b,o+i*14+4,none⟩=some (.int .u8 x.d.i4))∧(∀ (d:Nat) (os:Array Obj),(grow (redrawn w d) os).cell? ⟨b,o+i*14+5,none⟩=some (.int .u8 x.d.i5))∧(∀ (d:Nat) (os:Array Obj),(grow (redrawn w d) os).cell? ⟨b,o+i*14+6,none⟩=some (.int .u8 x.d.i6))∧(∀ (d:Nat) (os:Array Obj),(grow (redrawn w d) os).cell? ⟨b,o+i*14+7,none⟩=some (.int .u8 x.d.i7))∧(∀ (d:Nat) (os:Array Obj),(grow (redrawn w d) os).cell? ⟨b,o+i*14+8,none⟩=some (.int .i16 x.d.ax))∧(∀ (d:Nat) (os:Array Obj),(grow (redrawn w d) os).cell? ⟨b,o+i*14+9,none⟩=some (.int .i16 x.d.ay))∧(∀ (d:Nat) (os:Array Obj),(grow (redrawn w d) os).cell? ⟨b,o+i*14+10,none⟩=some (.int .u8 x.d.seats))∧(∀ (d:Nat) (os:Array Obj),(grow (redrawn w d) os).cell? ⟨b,o+i*14+11,none⟩=some (.int .u8 x.d.cls))∧(∀ (d:Nat) (os:Array Obj),(grow (redrawn w d) os).cell? ⟨b,o+i*14+12,none⟩=some (.int .i64 x.d.radius))∧(∀ (d:Nat) (os:Array Obj),(grow (redrawn w d) os).cell? ⟨b,o+i*14+13,none⟩=some (.int .i64 x.number)):=by
 obtain ⟨h0,h1,h2,h3,h4,h5,h6,h7,h8,h9,h10,h11,h12,h13⟩:=th hr hx;exact ⟨yR h0,yR h1,yR h2,yR h3,yR h4,yR h5,yR h6,yR h7,yR h8,yR h9,yR h10,yR h11,yR h12,yR h13⟩
theorem cH {w:World} {b o:Nat} {l:List ab} (hr:RdC w (some ⟨b,o,none⟩) (cellsOf ab.cells l)) {i:Nat} {x:ab} (hx:l[i]?=some x) :
 w.cell? ⟨b,o+i*3,none⟩=some (.int .i64 x.r)∧w.cell? ⟨b,o+i*3+1,none⟩=some (.int .i64 x.c)∧w.cell? ⟨b,o+i*3+2,none⟩=some (.int .i64 x.w):=by
 have h:=bf ab.cells_length hr hx;exact ⟨h 0 _ rfl,h 1 _ rfl,h 2 _ rfl⟩
theorem bi {w:World} {b o:Nat} {l:List ag} (hr:RdC w (some ⟨b,o,none⟩) (cellsOf ag.cells l)) {i:Nat} {x:ag} (hx:l[i]?=some x) :
 w.cell? ⟨b,o+i*2,none⟩=some (.int .i64 x.r)∧w.cell? ⟨b,o+i*2+1,none⟩=some (.int .i64 x.c):=by
 have h:=bf ag.cells_length hr hx;exact ⟨h 0 _ rfl,h 1 _ rfl⟩
theorem vz {w:World} {b:Nat} {t:TypeId} {x:ae} (h:w.heap[b]?=some (.cells #[.int .i64 x.q,.int .i64 x.d,.int .i64 x.w,.int .i64 x.ttl,.int .i64 x.b] t (0,0))) :
 w.cell? ⟨b,0,none⟩=some (.int .i64 x.q)∧w.cell? ⟨b,1,none⟩=some (.int .i64 x.d)∧w.cell? ⟨b,2,none⟩=some (.int .i64 x.w)∧w.cell? ⟨b,3,none⟩=some (.int .i64 x.ttl)∧w.cell? ⟨b,4,none⟩=some (.int .i64 x.b):=by
 refine ⟨?_,?_,?_,?_,?_⟩ <;> rw [cell_of_row w b _ _ t (0,0) h] <;> rfl
theorem xF {w:World} {b:Nat} {t:TypeId} {x:az} (h:w.heap[b]?=some (.cells #[.int .u8 x.i0,.int .u8 x.i1,.int .u8 x.i2,.int .u8 x.i3,.int .u8 x.i4,.int .u8 x.i5,.int .u8 x.i6,.int .u8 x.i7,.int .i16 x.fx,.int .i16 x.fy,.int .i16 x.tx,.int .i16 x.ty,.int .u8 x.seats,.int .u8 x.classes,.int .i64 x.base,.int .i64 x.ttl] t (0,0))) :
 w.cell? ⟨b,0,none⟩=some (.int .u8 x.i0)∧w.cell? ⟨b,1,none⟩=some (.int .u8 x.i1)∧w.cell? ⟨b,2,none⟩=some (.int .u8 x.i2)∧w.cell? ⟨b,3,none⟩=some (.int .u8 x.i3)∧w.cell? ⟨b,4,none⟩=some (.int .u8 x.i4)∧w.cell? ⟨b,5,none⟩=some (.int .u8 x.i5)∧w.cell? ⟨b,6,none⟩=some (.int .u8 x.i6)∧w.cell? ⟨b,7,none⟩=some (.int .u8 x.i7)∧w.cell? ⟨b,8,none⟩=some (.int .i16 x.fx)∧w.cell? ⟨b,9,none⟩=some (.int .i16 x.fy)∧w.cell? ⟨b,10,none⟩=some (.int .i16 x.tx)∧w.cell? ⟨b,11,none⟩=some (.int .i16 x.ty)∧w.cell? ⟨b,12,none⟩=some (.int .u8 x.seats)∧w.cell? ⟨b,13,none⟩=some (.int .u8 x.classes)∧w.cell? ⟨b,14,none⟩=some (.int .i64 x.base)∧w.cell? ⟨b,15,none⟩=some (.int .i64 x.ttl):=by
 refine ⟨?_,?_,?_,?_,?_,?_,?_,?_,?_,?_,?_,?_,?_,?_,?_,?_⟩ <;> rw [cell_of_row w b _ _ t (0,0) h] <;> rfl
end Go.Proofs.YtcaicgipibcicaaGreat
