/- Chapter 13: who fits whom. -/
import Derived.Test.YtcaicgipibcicaaGreatQFit5
import Derived.Deep.WholeRow
set_option maxRecDepth 100000
set_option maxHeartbeats 4000000
set_option linter.unusedSimpArgs false
set_option linter.unusedVariables false
open Go.Lib renaming hid→wB
namespace Go.Proofs.YtcaicgipibcicaaGreat
open Go.RowKit Go.Sort
theorem wz (r:aB) (d:iD):(gB r d==0)=lq r d:=by
 unfold gB lq;by_cases h1:d.cls≤7 <;> cases h2:eI r.classes d.cls <;> by_cases h3:r.seats≤d.seats <;> by_cases h4:gA d.ax d.ay r.fx r.fy≤d.radius <;> simp [h1,h3,h4] <;> omega
theorem fits_any (w:World) (r:aB) (d:iD) (hr:r.Ok) (hd:d.Ok):Calls Tryz.prog 28 #[.agg #[.int .u8 r.i0,.int .u8 r.i1,.int .u8 r.i2,.int .u8 r.i3,.int .u8 r.i4,.int .u8 r.i5,.int .u8 r.i6,.int .u8 r.i7,.int .i16 r.fx,.int .i16 r.fy,.int .i16 r.tx,.int .i16 r.ty,.int .u8 r.seats,.int .u8 r.classes,.int .i64 r.base,.int .i64 r.ttl],.agg #[.int .u8 d.i0,.int .u8 d.i1,.int .u8 d.i2,.int .u8 d.i3,.int .u8 d.i4,.int .u8 d.i5,.int .u8 d.i6,.int .u8 d.i7,.int .i16 d.ax,.int .i16 d.ay,.int .u8 d.seats,.int .u8 d.cls,.int .i64 d.radius]] w fun e w'=>e = .returned (.bool (lq r d))∧Below w.heap.size w w':=by
 have HB:=wB (((Below.refl w.heap.size w).alloc (Nat.le_refl _) (.cells #[.int .u8 r.i0,.int .u8 r.i1,.int .u8 r.i2,.int .u8 r.i3,.int .u8 r.i4,.int .u8 r.i5,.int .u8 r.i6,.int .u8 r.i7,.int .i16 r.fx,.int .i16 r.fy,.int .i16 r.tx,.int .i16 r.ty,.int .u8 r.seats,.int .u8 r.classes,.int .i64 r.base,.int .i64 r.ttl] 77)).alloc (by simp) (.cells #[.int .u8 d.i0,.int .u8 d.i1,.int .u8 d.i2,.int .u8 d.i3,.int .u8 d.i4,.int .u8 d.i5,.int .u8 d.i6,.int .u8 d.i7,.int .i16 d.ax,.int .i16 d.ay,.int .u8 d.seats,.int .u8 d.cls,.int .i64 d.radius] 81));have HA:=wB (fun w=>oB w r d hr hd);have HE:=wB (wz r d);go_enter Tryz.func28,Tryz.ntmps28
 go_wp2_with fail
 generalize (w.alloc (.cells #[.int .u8 r.i0,.int .u8 r.i1,.int .u8 r.i2,.int .u8 r.i3,.int .u8 r.i4,.int .u8 r.i5,.int .u8 r.i6,.int .u8 r.i7,.int .i16 r.fx,.int .i16 r.fy,.int .i16 r.tx,.int .i16 r.ty,.int .u8 r.seats,.int .u8 r.classes,.int .i64 r.base,.int .i64 r.ttl] 77)).alloc (.cells #[.int .u8 d.i0,.int .u8 d.i1,.int .u8 d.i2,.int .u8 d.i3,.int .u8 d.i4,.int .u8 d.i5,.int .u8 d.i6,.int .u8 d.i7,.int .i16 d.ax,.int .i16 d.ay,.int .u8 d.seats,.int .u8 d.cls,.int .i64 d.radius] 81)=W at *;refine (HA.out W).mono ?_;rintro e w1 ⟨rfl,hb1⟩;have HB1:=wB (jy HB.out hb1);clear hb1;generalize gB r d=A at *;go_wp2_with fail
 go_ret
 exact ⟨by rw [←HE.out];rfl,HB1.out⟩
def eh (n:Int):Bool:=decide (0≤n∧n≤1099511627776)
theorem mg (w:World) (n:Int):Calls Tryz.prog 128 #[.int .i64 n] w fun e w'=>e = .returned (.bool (eh n))∧w=w':=by
 by_cases h1:0≤n
 · by_cases h2:n≤1099511627776
   · rw [show eh n=true by simp [eh,h1,h2]]
     go_enter Tryz.func128,Tryz.ntmps128
     go_wp2_with fail
     go_ret
     exact ⟨rfl,rfl⟩
   · rw [show eh n=false by simp [eh,h2]]
     go_enter Tryz.func128,Tryz.ntmps128
     go_wp2_with fail
     go_ret
     exact ⟨rfl,rfl⟩
 · rw [show eh n=false by simp [eh,h1]]
   go_enter Tryz.func128,Tryz.ntmps128
   go_wp2_with fail
   go_ret
   exact ⟨rfl,rfl⟩
theorem jn (w:World) (n:Int) (h1:0≤n) (h2:n≤4611686018427387903):Calls Tryz.prog 190 #[.int .i64 n] w fun e w'=>e = .returned (.bool true)∧w=w':=by
 go_enter Tryz.func190,Tryz.ntmps190
 go_wp2_with fail
 go_ret
 exact ⟨rfl,rfl⟩
theorem m9 (w:World) (n:Int) (h1:0≤n):Calls Tryz.prog 191 #[.int .i64 n] w fun e w'=>e = .returned (.tuple #[.int .i64 n,.bool true])∧w=w':=by
 go_enter Tryz.func191,Tryz.ntmps191
 go_wp2_with fail
 go_ret2
 exact ⟨rfl,rfl⟩
theorem mh (n:Nat) (h:n<18446744073709551616):IntKind.u64.wrap (n:Int)=n:=by
 unfold IntKind.wrap;simp [IntKind.bits,IntKind.signed];omega
theorem pQ (w:World) (a b:Nat) (h1:a<4294967296) (h2:b<4294967296):Calls Tryz.prog 192 #[.int .u64 a,.int .u64 b] w fun e w'=>e = .returned (.tuple #[.int .u64 0,.int .u64 ((a*b:Nat):Int)])∧w=w':=by
 have hlt:a*b<18446744073709551616:=by
  have:=Nat.mul_le_mul (show a≤4294967295 by omega) (show b≤4294967295 by omega);omega
 have ha:bits BinOp.and IntKind.u64 (a:Int) 4294967295=a:=by
  have:=u64_and_nat a 4294967295 (by omega) (by omega);rw [show ((4294967295:Nat):Int)=4294967295 from rfl] at this;rw [this,show (4294967295:Nat)=2 ^ 32 - 1 from rfl,Nat.and_two_pow_sub_one_eq_mod,Nat.mod_eq_of_lt (by omega)]
 have hb:bits BinOp.and IntKind.u64 (b:Int) 4294967295=b:=by
  have:=u64_and_nat b 4294967295 (by omega) (by omega);rw [show ((4294967295:Nat):Int)=4294967295 from rfl] at this;rw [this,show (4294967295:Nat)=2 ^ 32 - 1 from rfl,Nat.and_two_pow_sub_one_eq_mod,Nat.mod_eq_of_lt (by omega)]
 have hda:(a:Int) / 4294967296=0:=by omega
 have hdb:(b:Int) / 4294967296=0:=by omega
 have hw:IntKind.u64.wrap ((a:Int)*(b:Int))=((a*b:Nat):Int):=by
  rw [show (a:Int)*(b:Int)=((a*b:Nat):Int) by simp];exact mh _ hlt
 have hq:a*b / 4294967296<4294967296:=by omega
 go_enter Tryz.func192,Tryz.ntmps192
 go_wp2_with fail
 have hc:(a:Int)*(b:Int) / 4294967296=((a*b / 4294967296:Nat):Int):=by simp
 have hand:bits BinOp.and IntKind.u64 ((a*b / 4294967296:Nat):Int) 4294967295=((a*b / 4294967296:Nat):Int):=by
  have:=u64_and_nat (a*b / 4294967296) 4294967295 (by omega) (by omega);rw [show ((4294967295:Nat):Int)=4294967295 from rfl] at this;rw [this,show (4294967295:Nat)=2 ^ 32 - 1 from rfl,Nat.and_two_pow_sub_one_eq_mod,Nat.mod_eq_of_lt (by omega)]
 have hx:IntKind.u64.wrap ((a:Int)*(b:Int) / 4294967296 / 4294967296+IntKind.u64.wrap (bits BinOp.and IntKind.u64 ((a:Int)*(b:Int) / 4294967296) 4294967295) / 4294967296)=0:=by
  rw [hc,hand,mh _ (by omega)];generalize a*b / 4294967296=c at *;have e:((c:Int) / 4294967296+(c:Int) / 4294967296)=((0:Nat):Int):=by omega
  rw [e,mh 0 (by omega)];rfl
 go_ret2
 refine ⟨?_,rfl⟩
 show Ending.returned (Value.tuple #[.int .u64 _,.int .u64 _])=_
 rw [hx];simp
theorem tr (w:World) (a b:Int) (h1:0≤a) (h2:a≤4294967295) (h3:0≤b) (h4:b≤1073741823):Calls Tryz.prog 172 #[.int .i64 a,.int .i64 b] w fun e w'=>e = .returned (.tuple #[.int .i64 (a*b),.bool true])∧w=w':=by
 obtain ⟨x,rfl⟩:=Int.eq_ofNat_of_zero_le h1;obtain ⟨y,rfl⟩:=Int.eq_ofNat_of_zero_le h3
 have hlt:x*y≤4611686013213704192:=by
  have:=Nat.mul_le_mul (show x≤4294967295 by omega) (show y≤1073741823 by omega);omega
 have HM:=wB (fun w=>pQ w x y (by omega) (by omega));have HXY:=wB (show ((x:Int)*(y:Int))=((x*y:Nat):Int) by simp);have HI1:=wB (fun w=>jn w x h1 (by omega));have HI2:=wB (fun w=>jn w y h3 (by omega));have HA1:=wB (fun w=>m9 w x h1);have HA2:=wB (fun w=>m9 w y h3);generalize x*y=z at *;go_enter Tryz.func172,Tryz.ntmps172
 go_wp2_with fail
 refine (HI1.out _).mono ?_;rintro e w1 ⟨rfl,rfl⟩;go_wp2_with fail
 refine (HI2.out _).mono ?_;rintro e w1 ⟨rfl,rfl⟩;go_wp2_with fail
 refine (HA1.out _).mono ?_;rintro e w1 ⟨rfl,rfl⟩;go_wp2_with fail
 refine (HA2.out _).mono ?_;rintro e w1 ⟨rfl,rfl⟩;go_wp2_with fail
 refine (HM.out _).mono ?_;rintro e w1 ⟨rfl,rfl⟩;go_wp2_with fail
 go_ret2
 exact ⟨by rw [HXY.out];rfl,rfl⟩
def RdC (w:World) (ao:Option Addr) (xs:List Value):Prop:=
 xs=[]∨∃ b o,ao=some ⟨b,o,none⟩∧∀ j u,xs[j]?=some u→w.cell? ⟨b,o+j,none⟩=some u
theorem RdC.keep {X:Nat→Prop} {w w':World} {ao:Option Addr} {xs:List Value} (hr:RdC w ao xs) (h:Keep X w w') (hx:∀ b o,ao=some ⟨b,o,none⟩→¬ X b):RdC w' ao xs:=by
 rcases hr with h0 | ⟨b,o,rfl,hc⟩
 · exact .inl h0
 · exact .inr ⟨b,o,rfl,fun j u hu=>h.cell (hc j u hu) (hx b o rfl)⟩
theorem RdC.below {w w':World} {ao:Option Addr} {xs:List Value} (hr:RdC w ao xs) (h:Below w.heap.size w w'):RdC w' ao xs:=
 hr.keep (Keep.of_below h (Nat.le_refl _) (fun _=>False)) (fun _ _ _=>id)
theorem RdC.place {w:World} {ao:Option Addr} {xs:List Value} (hr:RdC w ao xs) (h:0<xs.length):∃ b o,ao=some ⟨b,o,none⟩∧∀ j u,xs[j]?=some u→w.cell? ⟨b,o+j,none⟩=some u:=by
 rcases hr with h0 | h1
 · subst h0;simp at h
 · exact h1
def cellsOf {α:Type} (f:α→List Value) (l:List α):List Value:=l.flatMap f
theorem cellsOf_length {α:Type} (f:α→List Value) (k:Nat) (hf:∀ a,(f a).length=k) (l:List α):(cellsOf f l).length=l.length*k:=by
 induction l with
 | nil=>simp [cellsOf]
 | cons a l ih=>simp only [cellsOf,List.flatMap_cons,List.length_append,hf,List.length_cons] at ih ⊢;rw [ih,Nat.add_mul];omega
theorem ei {α:Type} (f:α→List Value) (k:Nat) (hf:∀ a,(f a).length=k) (l:List α):∀ (i:Nat) (x:α),l[i]?=some x→∀ j,j<k→(cellsOf f l)[i*k+j]?=(f x)[j]?:=by
 induction l with
 | nil=>intro i x h;simp at h
 | cons a l ih=>
   intro i x h j hj;simp only [cellsOf,List.flatMap_cons] at ih ⊢;cases i with
   | zero=>
     simp only [List.getElem?_cons_zero,Option.some.injEq] at h;subst h;rw [Nat.zero_mul,Nat.zero_add,List.getElem?_append_left (by rw [hf];exact hj)]
   | succ i=>
     simp only [List.getElem?_cons_succ] at h;rw [List.getElem?_append_right (by rw [hf,Nat.add_mul];omega),hf];rw [show (i+1)*k+j - k=i*k+j by rw [Nat.add_mul];omega];exact ih i x h j hj
theorem gc {α:Type} (f:α→List Value) (l:List α) (x:α):cellsOf f (l++[x])=cellsOf f l++f x:=by simp [cellsOf]
theorem wA {α:Type} {f:α→List Value} {k:Nat} (hf:∀ a,(f a).length=k) {w:World} {b o:Nat} {l:List α} (hr:∀ j u,(cellsOf f l)[j]?=some u→w.cell? ⟨b,o+j,none⟩=some u)
 {i:Nat} {x:α} (hx:l[i]?=some x) (j:Nat) (u:Value) (hu:(f x)[j]?=some u):w.cell? ⟨b,o+i*k+j,none⟩=some u:=by
 have hj:j<k:=by rw [←hf x];exact (List.getElem?_eq_some_iff.1 hu).1
 have:=hr (i*k+j) u (by rw [ei f k hf l i x hx j hj];exact hu);rw [Nat.add_assoc];exact this
theorem aa.cells_length (x:aa):x.cells.length=18:=rfl
theorem ak.cells_length (x:ak):x.cells.length=14:=rfl
theorem ab.cells_length (x:ab):x.cells.length=3:=rfl
theorem ai.cells_length (x:ai):x.cells.length=2:=rfl
end Go.Proofs.YtcaicgipibcicaaGreat
