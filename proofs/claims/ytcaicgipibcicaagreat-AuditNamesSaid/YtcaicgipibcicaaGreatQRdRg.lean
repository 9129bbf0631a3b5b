/- A range over the pieces of a log; what is walked outside a round is walked in it. -/
import Derived.Test.YtcaicgipibcicaaGreatQRdPs
set_option maxRecDepth 100000
set_option maxHeartbeats 4000000
set_option linter.unusedSimpArgs false
set_option linter.unusedVariables false
open Go renaming lt_of_block→wJ
open Nat renaming le_refl→wC,le_trans→xc
namespace Go.Proofs.YtcaicgipibcicaaGreat
open Go.RowKit Go.Sort Go.Shelf
def fV (o:Oper):Bool:=match o.op with
 | .defer _=>false
 | _=>true
theorem nE {o:Oper} (h:fV o=true):∀ c,o.op≠.defer c:=by
 intro c hc;unfold fV at h;rw [hc] at h;cases h
theorem eA {P:Program} {o:Oper} {a:Act} {w:World} {K K':Act→World→Prop} {Q:Exit→Act→World→Prop} {lo n:Nat} (hd:fV o=true) (hK:∀ a w,K a w→K' a w) (h:o.wp P a w K Q) :
 o.wpIn (Fence.wide.inRound lo) n P a w K' Q:=by
 unfold Oper.wpIn;refine ⟨fun _ _=>trivial,?_⟩;rw [Oper.semAt_plain _ _ _ (nE hd)];unfold Oper.wp at h;cases hr:(execOp a.eval o).run P w with
 | ok x w'=>
   rw [hr] at h;cases x with
   | value v=>exact hK _ _ h
   | skip=>exact hK _ _ h
   | defer d=>exact hK _ _ h
   | enter f args=>
     refine ⟨fun e=>(by cases e),CallsIn.inRound lo (callsIn_wide.2 ?_)⟩;refine Calls.mono h ?_;intro e w'' he;cases e with
     | returned v=>exact hK _ _ he
     | panicked c=>exact he
     | outgrown=>exact he
   | row row args=>
     refine ⟨fun e=>(by cases e),fun c cs _=>?_⟩;obtain ⟨v,w3,h1,h2⟩:=h c cs;exact ⟨v,w3,hK _ _ h1,stepsIn_wide.2 h2⟩
   | _=>exact h.elim
 | halt x w'=>
   rw [hr] at h;cases x with
   | panic v=>exact h
   | _=>exact h.elim
theorem fW {P:Program} {ops:Array Oper} {Q:Exit→Act→World→Prop} {lo n:Nat} (hQ:¬ LetsOut Q):∀ (l:List Oper) (a:Act) (w:World),l.all fV=true→wpList P ops Q l a w→wpListIn (Fence.wide.inRound lo) n P ops Q l a w
 | [],a,w,_,h=>h
 | o::rest,a,w,hd,h=>by
   simp only [List.all_cons,Bool.and_eq_true] at hd;unfold wpListIn;unfold wpList at h;split
   · rename_i hw
     rw [if_pos hw] at h;rcases h with h | ⟨_,h⟩
     · exact eA hd.1 (fun a w h=>fW hQ rest a w hd.2 h) h
     · exact absurd h hQ
   · rename_i hw
     rw [if_neg hw] at h;exact ⟨fun _ _=>trivial,fW hQ rest _ _ hd.2 h⟩
theorem eP {P:Program} {id:Nat} {l:List Oper} {Q:Exit→Act→World→Prop} {lo n:Nat} {a:Act} {w:World} (hQ:¬ LetsOut Q) (hd:l.all fV=true) (h:wpList P l.toArray Q l a w) :
 (Code.region id l.toArray false).wpIn (Fence.wide.inRound lo) n P Q a w:=wpIn_region_lit (fW hQ l a w hd h)
theorem iM {o:Oper} (h:∀ c,o.op≠.defer c):fV o=true:=by
 unfold fV;cases ho:o.op <;> first | rfl | exact absurd ho (h _)
theorem nF {P:Program} {ops:Array Oper} {rest:List Oper} {o:Oper} {a:Act} {w:World} {Q:Exit→Act→World→Prop} {lo n:Nat} (hgd:o.guard=none) (ty:TypeId) (x:Operand) (ho:o.op = .load ty x)
 (b off:Nat) (hx:a.eval x = .pointer (some ⟨b,off,none⟩)) (cs:List Value) (vs:Array Value) (hvs:cs.toArray=vs) (d:TypeDesc) (hc:∀ j u,cs[j]?=some u→w.cell? ⟨b,off+j,none⟩=some u)
 (hu:P.underlying ty=some d) (hd:(match d with | .struct _ | .array _ _=>true | _=>false)=true) (hi:(P.info? ty).map (·.size)=some cs.length)
 (h:wpListIn (Fence.wide.inRound lo) n P ops Q rest (a.put o.dst (.agg vs)) w):wpListIn (Fence.wide.inRound lo) n P ops Q (o::rest) a w:=
 wpListIn_plain hgd fun _ hK=>eA (iM (fun c=>by rw [ho];intro e;cases e)) (fun _ _ h=>h) (jb ty x ho b off hx cs d hc hu hd hi (hK _ _ (by rw [hvs];exact h)))
theorem fY {P:Program} {ops:Array Oper} {rest:List Oper} {o:Oper} {a:Act} {w:World} {Q:Exit→Act→World→Prop} {lo n:Nat} (hgd:o.guard=none) (ty:TypeId) (p x:Operand) (ho:o.op = .store ty p x) (c c':Array Value)
 (hp:a.eval p = .pointer (some ⟨w.heap.size,0,none⟩)) (hx:a.eval x = .agg c') (cs:List Value) (hc:cs.toArray=c') (hi:(P.info? ty).map (·.size)=some c'.size) (hs:c.size=c'.size) (h1:∀ u ∈ cs,u.oneCell'=true)
 (h:wpListIn (Fence.wide.inRound lo) n P ops Q rest (a.put o.dst undef) (w.alloc (.cells c' ty))):wpListIn (Fence.wide.inRound lo) n P ops Q (o::rest) a (w.alloc (.cells c ty)):=by
 refine wpListIn_plain hgd fun K hK=>eA (iM (fun c=>by rw [ho];intro e;cases e)) (fun _ _ h=>h) ?_
 have h1':c'.all (·.oneCell')=true:=by subst hc;rw [List.all_toArray,List.all_eq_true];exact h1
 unfold Oper.wp execOp;simp only [ho,hp,hx,Sem.run_bind,run_storeAt_new w ty c c' hi hs h1',Result.andThen_ok,Sem.run_pure];exact hK _ _ h
theorem ml {P:Program} {ops:Array Oper} {rest:List Oper} {o:Oper} {a:Act} {w:World} {Q:Exit→Act→World→Prop} {lo m0:Nat}
 (hg:o.guard=none) (s x:Operand) (t tx:TypeId) (hop:o.op=Op.call { callee:=Callee.builtin Builtin.append,args:=#[s,x],argTypes:=#[t,tx] })
 (e:TypeId) (i:TypeInfo) (z:Value) (size bytes:Nat) (ht:P.underlying t=some (.slice e)) (hi:P.info? e=some i) (hz:i.zero=some z) (hsize:i.size=size) (hby:i.bytes=bytes) (hzs:z.cells.size=size)
 (v:Value) (n:Nat) (xs:List Value) (hs:a.eval s=v) (hown:Own w size v n xs) (xv:Value) (m:Nat) (news:List Value) (hx:a.eval x=xv) (hsrc:Src P size tx xv m news w)
 (h63:n+m≤maxLen) (hbytes:(n+m)*bytes≤140737488355328)
 (hK:∀ ao cap w',Own w' size (.slice ao (n+m) cap) (n+m) (xs++news)→Keep (fun k=>v.ownBlock=some k) w w'→((Value.slice ao (n+m) cap).ownBlock=v.ownBlock∨∃ g,(Value.slice ao (n+m) cap).ownBlock=some g∧w.heap.size≤g)→wpListIn (Fence.wide.inRound lo) m0 P ops Q rest (a.put o.dst (.slice ao (n+m) cap)) w') :
 wpListIn (Fence.wide.inRound lo) m0 P ops Q (o::rest) a w:=by
 refine wpListIn_plain hg fun K hK'=>eA (iM (fun c=>by rw [hop];intro e;cases e)) (fun _ _ h=>h) ?_
 have h:=bB (P:=P) (ops:=ops) (K:=K) (Q:=Q) (E:=True) hg s x t tx hop e i z size bytes ht hi hz hsize hby hzs v n xs hs hown xv m news hx hsrc h63 hbytes (fun ao cap w' h1 h2 h3=>hK' _ _ (hK ao cap w' h1 h2 h3));simp only [Region.wanted,hg,if_true] at h;exact h
def uQ (X:Nat→Prop) (W:World) (I:World→Prop) (Ix:Code→World→Prop):Exit→Act→World→Prop
 | .normal,_,W'=>Keep X W W'∧I W'
 | .ret,_,W'=>Keep X W W'∧Ix .ret W'
 | .exit id,_,W'=>Keep X W W'∧Ix (.exit id) W'
 | .goto t,_,W'=>Keep X W W'∧Ix (.goto t) W'
 | .panic _,_,_=>False
 | .outgrown,_,_=>False
def rdX (C B S N:Nat) (k:Nat):Prop:=C≤k∧k<N∧k≠B∧(k<S∨S+3≤k)
theorem d9 (w:World) (r:Nat) (o:Obj):Keep (fun k=>k=r) w (w.putObj r o):=
 ⟨rfl,rfl,rfl,by simp,fun k _ hk=>World.putObj_heap_other hk⟩
theorem Keep.heap_eq {X:Nat→Prop} {w w':World} (h:Keep X w w') {k:Nat} {o:Obj} (ho:w.heap[k]?=some o) (hk:¬ X k):w'.heap[k]?=some o:=
 (h.block k (wJ ho) hk).trans ho
theorem nG {g:Operand} {ps:Array Tmp} {assign body:Code} {Q:Exit→Act→World→Prop} {a:Act} {w:World} (B C S:Nat) (hS:w.heap.size=S) (hg:a.eval g = .func (.func 154) #[] #[.pointer (some ⟨B,0,none⟩)]) (hps:ps.size=2)
 (l0:List Int) (ao:Option Addr) (n cap:Nat) (hn:l0.length=n) (hb:Byt l0) (hm:n≤1000000000) (hcap:n≤cap) (hr:RdC w ao (cellsOf ah l0)) (hlow:∀ a,ao=some a→a.block<C) (hB:w.heap[B]?=some (.cells #[.slice ao n cap] 59 (0,0))) (hC:C≤B)
 (I:List Int→Nat→World→Prop) (Ix:Code→World→Prop)
 (hI:∀ x pos W W',I x pos W→Keep (fun k=>k=B∨(S≤k∧k<S+3)) W W'→I x pos W') (hIx:∀ c W W',Ix c W→Keep (fun k=>k=B∨(S≤k∧k<S+3)) W W'→Ix c W') (h0:I (be4 0) 0 w)
 (A:Option Addr→Nat→Nat→Nat→Nat→Act)
 (hassign:∀ (l:Nat) (W:World) (ao:Option Addr) (m cc s:Nat) (K:Act→World→Prop),K (A ao m cc s W.heap.size) (W.alloc (.cells (cellsOf ah (be4 s)).toArray 139))→
   assign.wpIn (Fence.wide.inRound l) 3 Tryz.prog (Exit.then K (fun _ _ _=>False)) { tmps:=(ps.zip #[.slice ao m cc,.agg (cellsOf ah (be4 s)).toArray]).foldl (fun t (p,v)=>t.setIfInBounds p v) a.tmps,defers:=[] } W)
 (hbody:∀ (l sa pos:Nat) (c:List Int) (s:Nat) (ao:Option Addr) (cc:Nat) (W0 W:World) (BX:Nat),I (be4 sa) pos W0→aR (be4 sa) (l0.drop pos)=some (c,s)→Keep (fun k=>k=B∨(S≤k∧k<S+3)) W0 W→W0.heap.size≤BX→S+2≤BX→
   W.heap[BX]?=some (.cells (cellsOf ah (be4 s)).toArray 139 (0,0))→RdC W ao (cellsOf ah c)→c.length≤cc→
   body.wpIn (Fence.wide.inRound l) 3 Tryz.prog (uQ (rdX C B S W0.heap.size) W (I (be4 s) (pos+(c.length+12))) Ix) (A ao c.length cc s BX) W)
 (hdone:∀ (sa pos:Nat) (W:World),I (be4 sa) pos W→aR (be4 sa) (l0.drop pos)=none→W.heap[S]?=some (.deferred (some []))→Q .normal { a with defers:={ target:=.collected S,args:=#[] }::a.defers } W)
 (hstop:∀ (c:Code) (W:World),Ix c W→W.heap[S]?=some (.deferred (some []))→c.wpIn Fence.wide 5 Tryz.prog Q { a with defers:={ target:=.collected S,args:=#[] }::a.defers } W) :
 (Code.rangeFunc g ps assign body).wpIn Fence.wide 5 Tryz.prog Q a w:=by
 refine wpIn_rangeFunc ?_;intro fn hfn;obtain ⟨rec,hrec⟩:∃ rec:LoopState→Option Code→Loop,rec=fun st pe=>{ state:=st,pending:=pe,fn,tmps:=a.tmps,params:=ps,assign,body,defers:=S }:=⟨_,rfl⟩
 have eg:∀ args w,(callFunc 154 args).run Tryz.prog w = .ok (.enter 154 args) w:=enters_of Tryz.func154 (by kernel_rfl) rfl;obtain ⟨W1,hW1⟩:∃ W1,(w.alloc (.deferred (some []))).alloc (.loop (rec .ready none))=W1:=⟨_,rfl⟩;have hs1:(w.alloc (.deferred (some []))).heap.size=S+1:=by rw [World.size_alloc,hS]
 have hs2:W1.heap.size=S+2:=by rw [←hW1,World.size_alloc,hs1]
 have hL1:W1.heap[S+1]?=some (.loop (rec .ready none)):=by
  rw [←hW1,←hs1];exact World.alloc_heap_new _ _
 have hkw:Keep (fun _=>False) w W1:=by
  rw [←hW1];exact (Keep.of_below ((Below.refl w.heap.size w).alloc (wC _) _) (wC _) (fun _=>False)).trans (Keep.of_below ((Below.refl (w.alloc (.deferred (some []))).heap.size _).alloc (wC _) _) (wC _) (fun _=>False)) (fun _ _ h=>h) (fun _ _ h=>h)
 have hK1:W1.heap[S]?=some (.deferred (some [])):=by
  rw [←hW1,←hS];exact (Below.heap_alloc _ _ _ (by simp)).trans (World.alloc_heap_new w _)
 have hBS:B<S:=by rw [←hS];exact wJ hB
 refine ⟨S+1,[{ target:=.collected S,args:=#[] }],W1,{ target:=.fn (.func 154) #[.pointer (some ⟨B,0,none⟩)],args:=#[.func (.yield (S+1)) #[] #[]] },W1,154,
  #[.func (.yield (S+1)) #[] #[]]++#[.pointer (some ⟨B,0,none⟩)],W1,?_,?_,fun _ _=>trivial,?_,(fun e=>(by cases e)),?_⟩
 · rw [←hW1,hrec,←hS];exact run_enterLoop_outer _ _ _ _ _
 · simp only [resolve,hg]
   simp [go_sem]
 · simp [invoke,go_sem,eg]
 · have hgo:PsGo (S+1) B C W1.heap.size l0 (fun x pos W=>I x pos W∧W.heap[S+1]?=some (.loop (rec .ready none))∧W.heap[S]?=some (.deferred (some []))∧S+2≤W.heap.size)
    (fun W=>∃ c,Ix c W∧W.heap[S+1]?=some (.loop (rec .done (some c)))∧W.heap[S]?=some (.deferred (some []))):=by
    refine ⟨?_⟩;rintro sa pos c s W0 Wr ao' cc ⟨hi,hl,hk,hsz⟩ hkp hnx hrd hcc hlo;rw [hs2] at hkp ⊢;have hlr:=hkp.heap_eq hl (by omega);have hkr:=hkp.heap_eq hk (by omega);have hy:=run_yield (P:=Tryz.prog) (args:=#[.slice ao' c.length cc,.agg (cellsOf ah (be4 s)).toArray]) hlr (by rw [hrec];exact hps.symm);rw [hrec] at hy;refine ⟨fn,_,assign,body,hy,roundIn_of_wpIn hfn (hassign _ Wr ao' c.length cc s _ ?_)⟩;clear hy;obtain ⟨Wa,hWa⟩:∃ Wa,Wr.alloc (.cells (cellsOf ah (be4 s)).toArray 139)=Wa:=⟨_,rfl⟩;have hka:Keep (fun _=>False) Wr Wa:=by rw [←hWa];exact Keep.alloc _ _ _
    have hnew:Wa.heap[Wr.heap.size]?=some (.cells (cellsOf ah (be4 s)).toArray 139 (0,0)):=by rw [←hWa];exact heap_alloc_new Wr _
    rw [hWa];have hla:=hka.heap_eq hlr id;refine ⟨_,run_beginRound hla (by rw [hrec]),?_⟩;have hkb:=d9 Wa (S+1) (.loop { rec .ready none with state:=.busy });have hlb:(Wa.putObj (S+1) (.loop { rec .ready none with state:=.busy })).heap[S+1]?=some (.loop { rec .ready none with state:=.busy }):=World.putObj_heap_same (wJ hla);have hkb2:(Wa.putObj (S+1) (.loop { rec .ready none with state:=.busy })).heap[S]?=some (.deferred (some [])):=hkb.heap_eq (hka.heap_eq hkr id) (by omega);have hnb:=hkb.heap_eq hnew (by have:=hkp.size;omega);generalize Wa.putObj (S+1) (.loop { rec .ready none with state:=.busy })=Wb at *;have hkall:Keep (fun k=>k=B∨(S≤k∧k<S+3)) W0 Wb:=((hkp.trans hka (Z:=fun k=>k=B∨(S≤k∧k<S+3)) (fun _ _ h=>by omega) (fun _ _ h=>h.elim)).trans hkb (fun _ _ h=>h) (fun _ _ h=>by omega));refine wpIn_mono (hbody _ sa pos c s ao' cc W0 Wb Wr.heap.size hi hnx hkall hkp.size (xc hsz hkp.size) hnb (hrd.keep (hka.trans hkb (Z:=fun k=>k=S+1) (fun _ _ h=>h.elim) (fun _ _ h=>h)) (fun b o e=>?hap)) hcc) ?_
    case hap=>
     have hbl:b<C:=hlo _ e
     show ¬ b=S+1
     omega
    have fin:∀ (jump:Option Code) (W3:World),Keep (rdX C B S W0.heap.size) Wb W3→
     (Instr.endRound (S+1) jump).run Tryz.prog W3 = .ok (.bool jump.isNone) (W3.putObj (S+1) (.loop (rec (if jump.isNone then .ready else .done) jump)))∧
     (W3.putObj (S+1) (.loop (rec (if jump.isNone then .ready else .done) jump))).heap[S+1]?=some (.loop (rec (if jump.isNone then .ready else .done) jump))∧
     (W3.putObj (S+1) (.loop (rec (if jump.isNone then .ready else .done) jump))).heap[S]?=some (.deferred (some []))∧
     Keep (fun k=>C≤k∧k<W0.heap.size∧k≠B∧k≠S+2) Wr (W3.putObj (S+1) (.loop (rec (if jump.isNone then .ready else .done) jump)))∧
     Keep (fun k=>k=B∨(S≤k∧k<S+3)) W3 (W3.putObj (S+1) (.loop (rec (if jump.isNone then .ready else .done) jump)))∧S+2≤W3.heap.size:=fun jump W3 hk3=>by
     have hl3:=hk3.heap_eq hlb (by unfold rdX;omega);have:=run_endRound (P:=Tryz.prog) jump hl3;rw [hrec] at this ⊢;have hkp3:=d9 W3 (S+1) (.loop (rec (if jump.isNone then .ready else .done) jump));rw [hrec] at hkp3;refine ⟨this,World.putObj_heap_same (wJ hl3),hkp3.heap_eq (hk3.heap_eq hkb2 (by unfold rdX;omega)) (by omega),?_,hkp3.mono (fun _ _ h=>by omega),?_⟩
     · have hCS:C≤S:=by omega
       exact ((hka.trans hkb (Z:=fun k=>C≤k∧k<W0.heap.size∧k≠B∧k≠S+2) (fun _ _ h=>h.elim) (fun _ _ h=>by omega)).trans hk3 (fun _ _ h=>h) (fun k _ h=>by unfold rdX at h;omega)).trans hkp3 (fun _ _ h=>h) (fun _ _ h=>by omega)
     · have h1:=hkall.size
       have h2:=hk3.size;omega
    rintro e a3 W3 hp;cases e with
    | normal=>
      obtain ⟨hk3,hi3⟩:=hp;obtain ⟨h1,h2,h3,h4,h5,h6⟩:=fin none W3 hk3;exact ⟨_,_,h1,true,rfl,h4,fun _=>⟨hI _ _ _ _ hi3 h5,h2,h3,by simpa using h6⟩,fun e=>(by cases e)⟩
    | ret=>
      obtain ⟨hk3,hi3⟩:=hp;obtain ⟨h1,h2,h3,h4,h5,h6⟩:=fin (some .ret) W3 hk3;exact ⟨_,_,h1,false,rfl,h4,fun e=>(by cases e),fun _=>⟨.ret,hIx _ _ _ hi3 h5,h2,h3⟩⟩
    | exit id=>
      obtain ⟨hk3,hi3⟩:=hp;obtain ⟨h1,h2,h3,h4,h5,h6⟩:=fin (some (.exit id)) W3 hk3;exact ⟨_,_,h1,false,rfl,h4,fun e=>(by cases e),fun _=>⟨.exit id,hIx _ _ _ hi3 h5,h2,h3⟩⟩
    | goto t=>
      obtain ⟨hk3,hi3⟩:=hp;obtain ⟨h1,h2,h3,h4,h5,h6⟩:=fin (some (.goto t)) W3 hk3;exact ⟨_,_,h1,false,rfl,h4,fun e=>(by cases e),fun _=>⟨.goto t,hIx _ _ _ hi3 h5,h2,h3⟩⟩
    | panic ch=>exact hp.elim
    | outgrown=>exact hp.elim
   refine CallsIn.mono (pi (S+1) B C l0 _ _ W1 hgo ao n cap hn hb hm hcap (hr.keep hkw (fun _ _ _=>id)) hlow (hkw.heap_eq hB id) hC ⟨hI _ _ _ _ h0 (hkw.mono (fun _ _ h=>h.elim)),hL1,hK1,by omega⟩) ?_;rintro e W2 ⟨⟨v,rfl⟩,(⟨sa,pos,W0,⟨hi,hl,hk,hsz⟩,hnx,hkp⟩ | ⟨W0,⟨c,hix,hl,hk⟩,hkp⟩)⟩
   · rw [hs2] at hkp
     have hl2:=hkp.heap_eq hl (by omega);have hk2:=hkp.heap_eq hk (by omega);have hkq:=d9 W2 (S+1) (.loop { rec .ready none with state:=.exhausted });refine ⟨none,_,by have:=run_endLoop (P:=Tryz.prog) hl2 (by rw [hrec];simp);rw [hrec] at this;exact this,?_⟩;rw [hrec] at hkq;exact hdone sa pos _ (hI _ _ _ _ hi ((hkp.trans hkq (Z:=fun k=>k=B∨(S≤k∧k<S+3)) (fun _ _ h=>by omega) (fun _ _ h=>by omega)))) hnx (hkq.heap_eq hk2 (by omega))
   · rw [hs2] at hkp
     have hl2:=hkp.heap_eq hl (by omega);have hk2:=hkp.heap_eq hk (by omega);have hkq:=d9 W2 (S+1) (.loop { rec .done (some c) with state:=.exhausted });refine ⟨some c,_,by have:=run_endLoop (P:=Tryz.prog) hl2 (by rw [hrec];simp);rw [hrec] at this;exact this,?_⟩;rw [hrec] at hkq;exact hstop c _ (hIx _ _ _ hix ((hkp.trans hkq (Z:=fun k=>k=B∨(S≤k∧k<S+3)) (fun _ _ h=>by omega) (fun _ _ h=>by omega)))) (hkq.heap_eq hk2 (by omega))
theorem qT {g:Operand} {ps:Array Tmp} {assign body:Code} {Q:Exit→Act→World→Prop} {a:Act} {w:World} (B C S:Nat) (hS:w.heap.size=S) (hg:a.eval g = .func (.func 154) #[] #[.pointer (some ⟨B,0,none⟩)]) (hps:ps.size=2)
 (l0:List Int) (ao:Option Addr) (n cap:Nat) (hn:l0.length=n) (hb:Byt l0) (hm:n≤1000000000) (hcap:n≤cap) (hr:RdC w ao (cellsOf ah l0)) (hlow:∀ a,ao=some a→a.block<C) (hB:w.heap[B]?=some (.cells #[.slice ao n cap] 59 (0,0))) (hC:C≤B)
 (I:List Int→Nat→World→Prop) (R:World→Prop) (hQ:∀ a w,Q .normal a w→Q (.exit 0) a w)
 (hI:∀ x pos W W',I x pos W→Keep (fun k=>k=B∨(S≤k∧k<S+3)) W W'→I x pos W') (hR:∀ W W',R W→Keep (fun k=>k=B∨(S≤k∧k<S+3)) W W'→R W') (h0:I (be4 0) 0 w)
 (A:Option Addr→Nat→Nat→Nat→Nat→Act)
 (hassign:∀ (l:Nat) (W:World) (ao:Option Addr) (m cc s:Nat) (K:Act→World→Prop),K (A ao m cc s W.heap.size) (W.alloc (.cells (cellsOf ah (be4 s)).toArray 139))→
   assign.wpIn (Fence.wide.inRound l) 3 Tryz.prog (Exit.then K (fun _ _ _=>False)) { tmps:=(ps.zip #[.slice ao m cc,.agg (cellsOf ah (be4 s)).toArray]).foldl (fun t (p,v)=>t.setIfInBounds p v) a.tmps,defers:=[] } W)
 (hbody:∀ (l sa pos:Nat) (c:List Int) (s:Nat) (ao:Option Addr) (cc:Nat) (W0 W:World) (BX:Nat),I (be4 sa) pos W0→aR (be4 sa) (l0.drop pos)=some (c,s)→Keep (fun k=>k=B∨(S≤k∧k<S+3)) W0 W→W0.heap.size≤BX→S+2≤BX→
   W.heap[BX]?=some (.cells (cellsOf ah (be4 s)).toArray 139 (0,0))→RdC W ao (cellsOf ah c)→c.length≤cc→
   body.wpIn (Fence.wide.inRound l) 3 Tryz.prog (uQ (rdX C B S W0.heap.size) W (I (be4 s) (pos+(c.length+12))) (fun c W=>c = .exit 0∧R W)) (A ao c.length cc s BX) W)
 (hdone:∀ (sa pos:Nat) (W:World),I (be4 sa) pos W→aR (be4 sa) (l0.drop pos)=none→R W)
 (hrest:∀ (W:World),R W→W.heap[S]?=some (.deferred (some []))→Q .normal { a with defers:={ target:=.collected S,args:=#[] }::a.defers } W) :
 (Code.rangeFunc g ps assign body).wpIn Fence.wide 5 Tryz.prog Q a w:=by
 refine nG B C S hS hg hps l0 ao n cap hn hb hm hcap hr hlow hB hC I (fun c W=>c = .exit 0∧R W) hI (fun c W W' h k=>⟨h.1,hR _ _ h.2 k⟩) h0 A hassign hbody (fun sa pos W h1 h2 h3=>hrest W (hdone sa pos W h1 h2) h3) ?_;rintro c W ⟨rfl,hW⟩ h3;exact wpIn_exit (hQ _ _ (hrest W hW h3))
structure eS (lo:Nat) (sv:Value) (vs:List RV) (W:World):Prop where
 own:Own W 9 sv vs.length (cellsOf RV.cells vs)
 blk:∀ b,sv.ownBlock=some b→lo≤b
 ins:∀ v ∈ vs,v.In W
 zone:∀ v ∈ vs,∃ N M,v.Zone N M∧lo≤N∧M≤W.heap.size∧∀ b,sv.ownBlock=some b→b<N∨M≤b
theorem eS.nil (lo:Nat) (W:World):eS lo (.slice none 0 0) [] W:=
 ⟨by simpa [cellsOf] using Own.nil W 9,by simp [Value.ownBlock],(fun v hv=>by cases hv),(fun v hv=>by cases hv)⟩
theorem eS.keep {lo:Nat} {sv:Value} {vs:List RV} {W W':World} {X:Nat→Prop} (h:eS lo sv vs W) (hk:Keep X W W') (hx:∀ k,X k→k<lo):eS lo sv vs W':=by
 refine ⟨h.own.keep hk (fun b e hX=>by have h1:=h.blk b e;have h2:=hx b hX;omega),h.blk,fun v hv=>?_,fun v hv=>?_⟩
 · obtain ⟨N,M,h1,h2,h3,h4⟩:=h.zone v hv
   exact h1 X _ _ (h.ins v hv) hk (fun k hX=>.inl (by have:=hx k hX;omega))
 · obtain ⟨N,M,h1,h2,h3,h4⟩:=h.zone v hv
   exact ⟨N,M,h1,h2,xc h3 hk.size,h4⟩
theorem eS.low {lo lo':Nat} {sv:Value} {vs:List RV} {W:World} (h:eS lo sv vs W) (hl:lo'≤lo):eS lo' sv vs W:=
 ⟨h.own,fun b e=>xc hl (h.blk b e),h.ins,fun v hv=>by
  obtain ⟨N,M,h1,h2,h3,h4⟩:=h.zone v hv;exact ⟨N,M,h1,xc hl h2,h3,h4⟩⟩
theorem eS.push {lo:Nat} {sv:Value} {vs:List RV} {W0 W1 W2 W3:World} {v:RV} {ao:Option Addr} {cap:Nat} {X:Nat→Prop} (h:eS lo sv vs W2) (hin:v.In W1) (hz:v.Zone W0.heap.size W1.heap.size) (hs01:W0.heap.size≤W1.heap.size) (hlo:lo≤W0.heap.size) (hown:∀ b,sv.ownBlock=some b→b<W0.heap.size)
 (hk2:Keep X W1 W2) (hx:∀ k,X k→k<lo∨W1.heap.size≤k) (ho:Own W3 9 (.slice ao (vs.length+1) cap) (vs.length+1) (cellsOf RV.cells vs++v.cells)) (hk3:Keep (fun k=>sv.ownBlock=some k) W2 W3)
 (hb:(Value.slice ao (vs.length+1) cap).ownBlock=sv.ownBlock∨∃ g,(Value.slice ao (vs.length+1) cap).ownBlock=some g∧W2.heap.size≤g):eS lo (.slice ao (vs.length+1) cap) (vs++[v]) W3:=by
 have hs2:=hk2.size;have hs3:=hk3.size
 have hnew:∀ b,(Value.slice ao (vs.length+1) cap).ownBlock=some b→sv.ownBlock=some b∨W2.heap.size≤b:=fun b e=>by
  rcases hb with hb | ⟨g,hb,hg⟩
  · left;rw [←hb];exact e
  · right;rw [hb] at e;cases e;exact hg
 have h01:v.In W2:=hz X _ _ hin hk2 (fun k hX=>by rcases hx k hX with h | h;exact .inl (by omega);exact .inr h);refine ⟨by simpa [cellsOf] using ho,fun b e=>?_,fun u hu=>?_,fun u hu=>?_⟩
 · rcases hnew b e with h' | h'
   · exact h.blk b h'
   · omega
 · rcases List.mem_append.1 hu with hu | hu
   · obtain ⟨N,M,h1,h2,h3,h4⟩:=h.zone u hu
     exact h1 _ _ _ (h.ins u hu) hk3 (fun k hX=>h4 k hX)
   · cases List.mem_singleton.1 hu
     exact hz _ _ _ h01 hk3 (fun k hX=>.inl (hown k hX))
 · rcases List.mem_append.1 hu with hu | hu
   · obtain ⟨N,M,h1,h2,h3,h4⟩:=h.zone u hu
     refine ⟨N,M,h1,h2,by omega,fun b e=>?_⟩;rcases hnew b e with h' | h'
     · exact h4 b h'
     · right;omega
   · cases List.mem_singleton.1 hu
     refine ⟨W0.heap.size,W1.heap.size,hz,hlo,by omega,fun b e=>?_⟩;rcases hnew b e with h' | h'
     · exact .inl (hown b h')
     · right;omega
end Go.Proofs.YtcaicgipibcicaaGreat
