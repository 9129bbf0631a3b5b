/- How long a record is; Beyond, asked of one length. -/
import Derived.Test.YtcaicgipibcicaaGreatQAudit
import Derived.Test.YtcaicgipibcicaaGreatQSumA
import Derived.Deep.MidRow
import Derived.Test.YtcaicgipibcicaaGreatQRecCk2
import Derived.Deep.RegionHeld3
import Derived.StillTailTactics
set_option maxRecDepth 100000
set_option maxHeartbeats 2000000
set_option linter.unusedSimpArgs false
set_option linter.unusedVariables false
namespace Go.Proofs.YtcaicgipibcicaaGreat
open Go.RowKit Go.Sort
theorem kU (w:World) (g:Nat) (n:Int) (hc:w.cell? ⟨g,0,none⟩=some (.int .i64 n)) (hn:ar n) :
 Calls Tryz.prog 10 #[.slice (some ⟨g,0,none⟩) 1 1] w fun e w'=>e = .returned (.bool (decide (1048576<n)))∧w'=w:=by
 obtain ⟨n1,n2⟩:=hn;by_cases h:1048576<n
 · rw [decide_eq_true h]
   go_enter Tryz.func10,Tryz.ntmps10
   go_wp2_with fail
   refine wp_loop_rounds 2 ?_;rw [rounds_succ];go_wp2_with fail
   go_ret
   exact ⟨rfl,rfl⟩
 · rw [decide_eq_false h]
   go_enter Tryz.func10,Tryz.ntmps10
   go_wp2_with fail
   refine wp_loop_rounds 2 ?_;rw [rounds_succ];go_wp2_with fail
   rw [rounds_succ];go_wp2_with fail
   go_ret
   exact ⟨rfl,rfl⟩
theorem bV {P:Program} {fn:Func} {tmps:Array Value} {w:World} (a:Nat) (t:TypeId) (hr:fn.results=#[.cell a t]) (H:Nat) (ha:tmps.getD a undef = .pointer (some ⟨H,0,none⟩)) (cs:List Value) (V:Array Value) (hV:cs.toArray=V) (d:TypeDesc)
 (hc:∀ j u,cs[j]?=some u→w.cell? ⟨H,0+j,none⟩=some u) (hu:P.underlying t=some d) (hd:(match d with | .struct _ | .array _ _=>true | _=>false)=true) (hi:(P.info? t).map (·.size)=some cs.length):(results fn tmps).run P w = .ok (.agg V) w:=by
 have h:=aZ (P:=P) w H 0 t cs d hc hu hd hi;rw [hV] at h;unfold results;rw [hr];rw [Array.getD_eq_getD_getElem?] at ha;simp [ha,asAddr,Sem.run_bind,h]
theorem gn {P:Program} {fn:Func} {tmps:Array Value} {w:World} (a:Nat) (t:TypeId) (hr:fn.results=#[.cell a t]) (H:Nat) (ha:tmps.getD a undef = .pointer (some ⟨H,0,none⟩)) (V:Array Value) (t':TypeId) (hb:w.heap[H]?=some (.cells V t' (0,0))) (d:TypeDesc)
 (hu:P.underlying t=some d) (hd:(match d with | .struct _ | .array _ _=>true | _=>false)=true) (hi:(P.info? t).map (·.size)=some V.size):(results fn tmps).run P w = .ok (.agg V) w:=
 bV a t hr H ha V.toList V (by simp) d (fun j u hu=>by rw [Nat.zero_add,cell_of_row w H j V t' (0,0) hb];simpa using hu) hu hd (by simpa using hi)
theorem bk {w:World} {b o:Nat} {A B:List Value} (h1:w.rangeAt b o A) (h2:w.rangeAt b (o+A.length) B):w.rangeAt b o (A++B):=by
 intro j v hv;rw [List.getElem?_append] at hv;split at hv
 · exact h1 j v hv
 · rename_i hj
   have:=h2 (j - A.length) v hv;rw [show o+A.length+(j - A.length)=o+j by omega] at this;exact this
theorem av {X:Nat→Prop} {w w':World} {b o n:Nat} (h:w.there b o n) (hk:Keep X w w') (hx:¬ X b):w'.there b o n:=fun j hj=>by
 obtain ⟨h1,h2⟩:=h j hj;obtain ⟨u,hu⟩:=Option.isSome_iff_exists.1 h1;refine ⟨by rw [hk.cell hu hx];rfl,?_⟩
 have hob:∃ ob,w.heap[b]?=some ob:=by
  cases hq:w.heap[b]? with
  | none=>simp [World.cell?,hq] at hu
  | some ob=>exact ⟨ob,rfl⟩
 obtain ⟨ob,hob⟩:=hob;have hob':=hk.old hob hx;unfold World.frozen? at h2 ⊢;simp only [hob,hob'] at h2 ⊢;exact h2
theorem eU {w w':World} {b o n:Nat} (h:w.there b o n) (hb:Below w.heap.size w w'):w'.there b o n:=av h (Keep.of_below hb (Nat.le_refl _) (fun _=>False)) id
theorem aJ (w:World) (g o:Nat) (v:Value):Keep (fun k=>k=g) w (w.setCell ⟨g,o,none⟩ v):=Keep.setCells w g o [v]
theorem iQ {P:Program} {ops:Array Oper} {w:World} {Q:Act→Prop} {a:Act} {o:Oper} {rest:List Oper} (hw:Region.wanted o (yielded ops a.tmps)=true) (ty:TypeId) (x:Operand) (ho:o.op = .load ty x)
 (b off:Nat) (hx:a.eval x = .pointer (some ⟨b,off,none⟩)) (cs:List Value) (V:Array Value) (hvs:cs.toArray=V) (d:TypeDesc) (hc:∀ j u,cs[j]?=some u→w.cell? ⟨b,off+j,none⟩=some u)
 (hu:P.underlying ty=some d) (hd:(match d with | .struct _ | .array _ _=>true | _=>false)=true) (hi:(P.info? ty).map (·.size)=some cs.length)
 (h:wpStill P ops w Q rest (a.put o.dst (.agg V))):wpStill P ops w Q (o::rest) a:=by
 refine wpStill_step fun K hK=>?_
 rw [if_pos hw];have hl:=aZ (P:=P) w b off ty cs d hc hu hd hi;rw [hvs] at hl;unfold Oper.still execOp;simp only [ho,hx,Instr.loadAt,Instr.sureAddr,Sem.run_bind,Sem.run_pure,Result.andThen_ok,hl];exact ⟨rfl,hK _ h⟩
def gO (v:Value):Option (DataW Value × List MemPlace):=some (.held v,[])
structure aN where
 w:aa
 tick:Int
 left:Bool
def aN.cells (s:aN):List Value:=s.w.cells++[.int .i64 s.tick,.bool s.left]
def aN.V (s:aN):Array Value:=s.cells.toArray
def fu:aN:=⟨⟨⟨0,0,0,0,0,0,0,0,0,0,0,0,0,0,0,0⟩,0,0⟩,0,false⟩
theorem tB:(Tryz.prog.info? 117).map (·.size)=some 20:=by kernel_rfl
theorem pV (w:World):(zeroValue 117).run Tryz.prog w = .ok (.agg fu.V) w:=by kernel_rfl
theorem aN.cells_one (s:aN):∀ u ∈ s.cells,u.oneCell'=true:=by
 intro u hu;rcases List.mem_append.1 hu with h | h
 · exact s.w.cells_one u h
 · simp only [List.mem_cons,List.not_mem_nil,or_false] at h
   rcases h with rfl | rfl <;> rfl
def bm (m:List (List Int × aN)) (id:List Int):Option aN:=match m.find? (fun p=>decide (p.1=id)) with
 | none=>none
 | some p=>some p.2
noncomputable def iR:List (List Int × aN)→DataW Value
 | []=>.map []
 | p::m=>(iR m).put (bP p.1) (.held (.agg p.2.V))
def nV (id:List Int):Prop:=∃ l,keyOf Tryz.prog 72 (idV id)=some l
theorem jT (m:List (List Int × aN)):Maps.IsMap (iR m):=by
 cases m with
 | nil=>exact Maps.isMap_empty
 | cons p m=>
   have h:∀ m:List (List Int × aN),Maps.IsMap (iR m):=by
    intro m
    induction m with
    | nil=>exact Maps.isMap_empty
    | cons p m ih=>exact ih.put _ _
   exact h _
theorem pW {m:List (List Int × aN)} (hm:∀ p ∈ m,nV p.1) {id:List Int} (hid:nV id) (z:Value) :
 (iR m).atKey (bP id) (.held z) = .held (match bm m id with | none=>z | some s=>.agg s.V)∧Maps.has (iR m) (bP id)=(bm m id).isSome:=by
 induction m with
 | nil=>exact ⟨rfl,rfl⟩
 | cons p m ih=>
   obtain ⟨h1,h2⟩:=ih (fun q hq=>hm q (List.mem_cons_of_mem _ hq));have hp:=hm p List.mem_cons_self;by_cases he:p.1=id
   · subst he
     have hl:bm (p::m) p.1=some p.2:=by simp [bm]
     rw [hl];exact ⟨Maps.atKey_put_same (jT m) (kP hp) _ _,Maps.has_put_same (jT m) (kP hp) _⟩
   · have hne:bP id≠bP p.1:=fun e=>he ((rA hp hid).1 e.symm)
     have hl:bm (p::m) id=bm m id:=by simp [bm,he]
     rw [hl,←h1,←h2];exact ⟨Maps.atKey_put_other hne _ _,Maps.has_put_other hne _⟩
structure PAu where
 c:ag
 tick:Int
 m:List (List Int × aN)
structure iw (a:PAu) (A M n:Nat) (w:World):Prop where
 box:w.heap[A]?=some (.cells #[.int .i64 a.c.q,.int .i64 a.c.d,.int .i64 a.c.w,.int .i64 a.c.ttl,.int .i64 a.c.b,.int .i64 a.tick,.map (some M)] 56 (0,0))
 own:w.ownsMap Tryz.prog 72 gO M n (iR a.m)
 keys:∀ p ∈ a.m,nV p.1
theorem iw.keepX {a:PAu} {A M n:Nat} {w w':World} {X:Nat→Prop} (h:iw a A M n w) (hk:Keep X w w') (h1:¬ X A) (h2:¬ X M):iw a A M n w':=by
 refine ⟨hk.old h.box h1,?_,h.keys⟩;obtain ⟨es,clock,hb,r⟩:=h.own;exact ⟨es,clock,hk.old hb h2,r⟩
theorem iw.keep {a:PAu} {A M n:Nat} {w w':World} (h:iw a A M n w) (hb:Below w.heap.size w w'):iw a A M n w':=h.keepX (Keep.of_below hb (Nat.le_refl _) (fun _=>False)) id id
theorem jr {w:World} {b:Nat} {a0 a1 a2 a3 a4 a5 a6:Value} {t:TypeId} (h:w.heap[b]?=some (.cells #[a0,a1,a2,a3,a4,a5,a6] t (0,0))) :
 w.cell? ⟨b,0,none⟩=some a0∧w.cell? ⟨b,1,none⟩=some a1∧w.cell? ⟨b,2,none⟩=some a2∧w.cell? ⟨b,3,none⟩=some a3∧w.cell? ⟨b,4,none⟩=some a4∧w.cell? ⟨b,5,none⟩=some a5∧w.cell? ⟨b,6,none⟩=some a6:=by
 refine ⟨?_,?_,?_,?_,?_,?_,?_⟩ <;> rw [cell_of_row w b _ _ t (0,0) h] <;> rfl
def bqW (x y:aa):Bool:=kO x.r.i0 y.r.i0 x.r.i1 y.r.i1 x.r.i2 y.r.i2 x.r.i3 y.r.i3 x.r.i4 y.r.i4 x.r.i5 y.r.i5 x.r.i6 y.r.i6 x.r.i7 y.r.i7 x.r.fx y.r.fx x.r.fy y.r.fy x.r.tx y.r.tx x.r.ty y.r.ty x.r.seats y.r.seats x.r.classes y.r.classes x.r.base y.r.base x.r.ttl y.r.ttl x.since y.since x.number y.number
theorem bqW_eq (x y:aa) (w:World):(Op.equalIn 10000 79 (.agg x.cells.toArray) (.agg y.cells.toArray)).run Tryz.prog w = .ok (bqW x y) w:=ud x.r.i0 y.r.i0 x.r.i1 y.r.i1 x.r.i2 y.r.i2 x.r.i3 y.r.i3 x.r.i4 y.r.i4 x.r.i5 y.r.i5 x.r.i6 y.r.i6 x.r.i7 y.r.i7 x.r.fx y.r.fx x.r.fy y.r.fy x.r.tx y.r.tx x.r.ty y.r.ty x.r.seats y.r.seats x.r.classes y.r.classes x.r.base y.r.base x.r.ttl y.r.ttl x.since y.since x.number y.number w
theorem rr (x y:aa):bqW x y=true↔x=y:=by
 unfold bqW;rw [oO];constructor
 · intro h
   obtain ⟨⟨_,_,_,_,_,_,_,_,_,_,_,_,_,_,_,_⟩,_,_⟩:=x;obtain ⟨⟨_,_,_,_,_,_,_,_,_,_,_,_,_,_,_,_⟩,_,_⟩:=y;simp only at h;obtain ⟨h0,h1,h2,h3,h4,h5,h6,h7,h8,h9,h10,h11,h12,h13,h14,h15,h16,h17⟩:=h;subst h0 h1 h2 h3 h4 h5 h6 h7 h8 h9 h10 h11 h12 h13 h14 h15 h16 h17;rfl
 · rintro rfl
   exact ⟨rfl,rfl,rfl,rfl,rfl,rfl,rfl,rfl,rfl,rfl,rfl,rfl,rfl,rfl,rfl,rfl,rfl,rfl⟩
def dn (a:PAu) (x:aa) (t:Int):Bool:=if t≤x.since then false else match bm a.m (idR x.r) with
 | none=>decide (a.tick≤x.since)
 | some s=>s.left && decide (s.tick=a.tick) && bqW s.w x
end Go.Proofs.YtcaicgipibcicaaGreat
