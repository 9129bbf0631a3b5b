/- Appends in regions that draw; rows that are written; lists that are built beside others. -/
import Derived.Test.YtcaicgipibcicaaGreatQLoadE
import Derived.Test.YtcaicgipibcicaaGreatQRFit3
import Derived.Deep.RegionLaw
import Derived.Laws.MakeOwn
set_option maxRecDepth 100000
set_option linter.unusedVariables false
namespace Go.Proofs.YtcaicgipibcicaaGreat
open Go.RowKit Go.Sort
theorem Row.set {w:World} {g cap size:Nat} {xs:List Value} (h:Row w g cap size xs) (i:Nat) (v:Value) (hi:i<cap*size):Row (w.setCell ⟨g,i,none⟩ v) g cap size (xs.set i v):=by
 have hK:=Keep.setCells w g i [v];have hsc:w.setCells g i [v]=w.setCell ⟨g,i,none⟩ v:=rfl;rw [←hsc];refine ⟨Nat.lt_of_lt_of_le h.lt hK.size,fun j u hu=>?_,fun j hj=>World.isSome_setCells g [v] _ w _ (h.there j hj),fun j hj=>by rw [World.frozen?_setCells];exact h.free j hj⟩;by_cases hj:j=i
 · subst hj
   have h1:=World.cell?_setCells_in g [v] j w (fun k hk=>by simp at hk;subst hk;exact h.there _ (by simpa using hi)) 0 (by simp);rw [List.getElem?_set] at hu;simp only [if_true] at hu;split at hu
   · cases hu;simpa using h1
   · cases hu
 · rw [World.cell?_setCells_out g [v] _ w ⟨g,j,none⟩ (fun _ _=>by simp;omega)]
   rw [List.getElem?_set_ne (fun e=>hj e.symm)] at hu;exact h.cell j u hu
theorem bB {P:Program} {ops:Array Oper} {o:Oper} {a:Act} {w:World} {K:Act→World→Prop} {Q:Exit→Act→World→Prop} {E:Prop}
 (hg:o.guard=none) (s x:Operand) (t tx:TypeId) (hop:o.op=Op.call { callee:=Callee.builtin Builtin.append,args:=#[s,x],argTypes:=#[t,tx] })
 (e:TypeId) (i:TypeInfo) (z:Value) (size bytes:Nat) (ht:P.underlying t=some (.slice e)) (hi:P.info? e=some i) (hz:i.zero=some z) (hsize:i.size=size) (hby:i.bytes=bytes) (hzs:z.cells.size=size)
 (v:Value) (n:Nat) (xs:List Value) (hs:a.eval s=v) (hown:Own w size v n xs) (xv:Value) (m:Nat) (news:List Value) (hx:a.eval x=xv) (hsrc:Src P size tx xv m news w)
 (h63:n+m≤maxLen) (hbytes:(n+m)*bytes≤140737488355328)
 (hK:∀ ao cap w',Own w' size (.slice ao (n+m) cap) (n+m) (xs++news)→Keep (fun k=>v.ownBlock=some k) w w'→((Value.slice ao (n+m) cap).ownBlock=v.ownBlock∨∃ g,(Value.slice ao (n+m) cap).ownBlock=some g∧w.heap.size≤g)→K (a.put o.dst (.slice ao (n+m) cap)) w') :
 if Region.wanted o (yielded ops a.tmps)=true then Oper.wp P o a w K Q else E:=by
 have hw:Region.wanted o (yielded ops a.tmps)=true:=by simp [Region.wanted,hg]
 rw [if_pos hw];obtain ⟨v',w',hr,h2,h3,h4,h5⟩:=gF (P:=P) w t tx o.type e i z size bytes ht hi hz hsize hby hzs v n xs hown xv m news hsrc h63 hbytes
 obtain ⟨ao,cap,hv⟩:∃ ao cap,v' = .slice ao (n+m) cap:=by
  rcases h2.2 with ⟨h,h0⟩ | ⟨g,c,h,_⟩
  · exact ⟨none,0,by rw [h,h0]⟩
  · exact ⟨_,_,h⟩
 subst hv;unfold Oper.wp;simp [execOp,hop,resolve,invoke,builtin,hs,hx,hr,Result.andThen];exact hK _ _ _ h2 h3 h4
structure gd (w3:World) (n m:Nat) (l:List ab) (ev:Value) (H:Nat) (wr:World):Prop where
 own:Own wr 3 ev l.length (cellsOf ab.cells l)
 new:∀ g,ev.ownBlock=some g→w3.heap.size≤g
 keep:Keep (fun k=>k=H) w3 wr
 box:wr.heap[H]?=some (.cells #[.int .i64 n,.int .i64 m,ev] 28 (0,0))
 lt:H<w3.heap.size
theorem gd.begin {w3:World} {n m H:Nat} (h:w3.heap[H]?=some (.cells #[.int .i64 n,.int .i64 m,.slice none 0 0] 28 (0,0))):gd w3 n m [] (.slice none 0 0) H w3:=
 ⟨Own.nil _ _,fun g hg=>by simp [Value.ownBlock] at hg,Keep.refl _ _,h,lt_of_block h⟩
theorem gd.past {w3:World} {n m:Nat} {l:List ab} {ev:Value} {H:Nat} {wr w':World} (h:gd w3 n m l ev H wr) (k:Keep (fun _=>False) wr w'):gd w3 n m l ev H w':=
 ⟨h.own.keep k (fun _ _=>id),h.new,h.keep.trans k (fun _ _ h=>h) (fun _ _ h=>h.elim),k.old h.box id,h.lt⟩
theorem gd.next {w3:World} {n m:Nat} {l:List ab} {ev:Value} {H:Nat} {wr WY w':World} (h:gd w3 n m l ev H wr) (hy:Keep (fun _=>False) wr WY) {x:ab} {ao:Option Addr} {cap:Nat}
 (hown:Own w' 3 (.slice ao (l.length+1) cap) (l.length+1) (cellsOf ab.cells l++ab.cells x)) (hk:Keep (fun q=>ev.ownBlock=some q) WY w')
 (hb:(Value.slice ao (l.length+1) cap).ownBlock=ev.ownBlock∨∃ g,(Value.slice ao (l.length+1) cap).ownBlock=some g∧WY.heap.size≤g) :
 gd w3 n m (l++[x]) (.slice ao (l.length+1) cap) H (w'.setCell ⟨H,2,none⟩ (.slice ao (l.length+1) cap)):=by
 have hs3:w3.heap.size≤WY.heap.size:=Nat.le_trans h.keep.size hy.size
 have hnew:∀ g,(Value.slice ao (l.length+1) cap).ownBlock=some g→w3.heap.size≤g:=fun g hg=>by
  rcases hb with hb | ⟨g',hb,hle⟩
  · exact h.new g (hb.symm.trans hg)
  · rw [hg] at hb;cases hb;exact Nat.le_trans hs3 hle
 have hlt:=h.lt;have hbox':w'.heap[H]?=some (.cells #[.int .i64 n,.int .i64 m,ev] 28 (0,0)):=hk.old (hy.old h.box id) (fun he=>by have:=h.new H he;omega);refine ⟨?_,hnew,?_,?_,h.lt⟩
 · rw [gc,List.length_append]
   exact hown.keep (Keep.setCell w' H 2 _) (fun g hg he=>by have:=hnew g hg;omega)
 · refine ((h.keep.trans hy (fun _ _ h=>h) (fun _ _ h=>h.elim)).trans hk (Z:=fun k=>k=H) (fun _ _ h=>h) (fun k hk2 he=>?_)).trans (Keep.setCell w' H 2 _) (fun _ _ h=>h) (fun _ _ h=>h)
   have:=h.new k he;omega
 · exact ae hbox' 2 _
theorem gd.grown {w w3:World} {n m:Nat} {l:List ab} {ev:Value} {H:Nat} {wr:World} (h:gd w3 n m l ev H wr) (hb:Below w.heap.size w w3) (hH:w.heap.size≤H):Grown w ab.cells 3 l ev wr:=
 ⟨h.own,hb.trans (h.keep.below hb.size (fun i hi he=>by omega)),fun g hg=>by have:=h.new g hg;have:=hb.size;omega⟩
end Go.Proofs.YtcaicgipibcicaaGreat
