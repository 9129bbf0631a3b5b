/- Chapter 13 in the reference: the classes as an array. -/
import Derived.Test.YtcaicgipibcicaaGreatQRFit1
set_option maxRecDepth 100000
set_option maxHeartbeats 4000000
set_option linter.unusedSimpArgs false
set_option linter.unusedVariables false
open Go.Lib renaming hid→yA
namespace Go.Proofs.YtcaicgipibcicaaGreat
open Go.RowKit Go.Sort
def ij (b k j:Nat):Value:=.bool (decide (j<k) && aH (b:Int) (j:Int))
def gJ (b k:Nat):Array Value:=#[ij b k 0,ij b k 1,ij b k 2,ij b k 3,ij b k 4,ij b k 5,ij b k 6,ij b k 7]
theorem sg (b:Nat):gJ b 0=#[.bool false,.bool false,.bool false,.bool false,.bool false,.bool false,.bool false,.bool false]:=by simp [gJ,ij]
theorem jU (b k:Nat):(gJ b k).size=8:=rfl
theorem kC (b k j:Nat) (hj:j<8):(gJ b k)[j]?=some (ij b k j):=by
 rcases (show j=0∨j=1∨j=2∨j=3∨j=4∨j=5∨j=6∨j=7 by omega) with rfl | rfl | rfl | rfl | rfl | rfl | rfl | rfl <;> rfl
theorem xT (b k j:Nat) (h:j≠k):ij b (k+1) j=ij b k j:=by
 unfold ij
 have:decide (j<k+1)=decide (j<k):=by
  by_cases hj:j<k
  · simp [hj];omega
  · simp [hj];omega
 rw [this]
theorem xU (b k:Nat):ij b (k+1) k = .bool (aH (b:Int) (k:Int)):=by simp [ij]
theorem sh (b k:Nat) (hk:k<8) (v:Bool) (hv:v=aH (b:Int) (k:Int)):(gJ b k).setIfInBounds k (.bool v)=gJ b (k+1):=by
 subst hv;apply Array.ext_getElem?
 intro j;rw [Array.getElem?_setIfInBounds];by_cases hj:j<8
 · rw [kC b (k+1) j hj]
   by_cases h:k=j
   · subst h
     rw [if_pos rfl,if_pos (by rw [jU];exact hk),xU]
   · rw [if_neg h,kC b k j hj,xT b k j (fun e=>h e.symm)]
 · have h1:(gJ b (k+1))[j]?=none:=Array.getElem?_eq_none (by rw [jU];omega)
   have h2:(gJ b k)[j]?=none:=Array.getElem?_eq_none (by rw [jU];omega);rw [h1,h2,if_neg (by omega)]
theorem uy (b k:Nat):(((b / 2 ^ k:Nat):Int) % 2==1)=aH (b:Int) (k:Int):=by
 have h0:aH (b:Int) (k:Int)=decide (b / 2 ^ k % 2=1):=by
  unfold aH;simp only [Int.toNat_natCast]
 rw [h0];rcases Nat.mod_two_eq_zero_or_one (b / 2 ^ k) with h | h
 · have:((b / 2 ^ k:Nat):Int) % 2=0:=by omega
   rw [this,h];rfl
 · have:((b / 2 ^ k:Nat):Int) % 2=1:=by omega
   rw [this,h];rfl
theorem ox (b:Nat):gJ b 8=#[.bool (aH b 0),.bool (aH b 1),.bool (aH b 2),.bool (aH b 3),.bool (aH b 4),.bool (aH b 5),.bool (aH b 6),.bool (aH b 7)]:=rfl
theorem Keep.setCell (w:World) (g o:Nat) (v:Value):Keep (·=g) w (w.setCell ⟨g,o,none⟩ v):=Keep.setCells w g o [v]
theorem aj {w:World} {D:Nat} {cs:Array Value} {t:TypeId} (h:w.heap[D]?=some (.cells cs t (0,0))) (i:Nat) (v:Value):(w.setCell ⟨D,i,none⟩ v).heap[D]?=some (.cells (cs.setIfInBounds i v) t (0,0)):=heap_setCell_same w D i cs t v h
structure tp (w:World) (b k:Nat) (H0 H1:Nat) (wr:World):Prop where
 res:wr.heap[H0]?=some (.cells #[.bool false,.bool false,.bool false,.bool false,.bool false,.bool false,.bool false,.bool false] 274 (0,0))
 arr:wr.heap[H1]?=some (.cells (gJ b k) 274 (0,0))
 below:Below w.heap.size w wr
theorem arr8 {w:World} {H:Nat} {a0 a1 a2 a3 a4 a5 a6 a7:Value} {t:TypeId} (h:w.heap[H]?=some (.cells #[a0,a1,a2,a3,a4,a5,a6,a7] t (0,0))) :
 w.cell? ⟨H,0,none⟩=some a0∧w.cell? ⟨H,1,none⟩=some a1∧w.cell? ⟨H,2,none⟩=some a2∧w.cell? ⟨H,3,none⟩=some a3∧w.cell? ⟨H,4,none⟩=some a4∧w.cell? ⟨H,5,none⟩=some a5∧w.cell? ⟨H,6,none⟩=some a6∧w.cell? ⟨H,7,none⟩=some a7∧(∀ j,w.frozen? ⟨H,j,none⟩=false):=by
 refine ⟨?_,?_,?_,?_,?_,?_,?_,?_,fun j=>frozen_of_row w H j _ t h⟩ <;> rw [cell_of_row w H _ _ t (0,0) h] <;> rfl
theorem qC (w:World) (b:Nat) (hb:b<256):Calls Tryz.prog 194 #[.int .u8 b] w fun e w'=>e = .returned (.agg (gJ b 8))∧Below w.heap.size w w':=by
 go_enter Tryz.func194,Tryz.ntmps194
 go_wp2_with fail
 have hst:tp w b 0 w.heap.size (w.heap.size+1) ((w.alloc (.cells #[.bool false,.bool false,.bool false,.bool false,.bool false,.bool false,.bool false,.bool false] 274)).alloc (.cells #[.bool false,.bool false,.bool false,.bool false,.bool false,.bool false,.bool false,.bool false] 274)):=by
  refine ⟨?_,?_,((Below.refl w.heap.size w).alloc (Nat.le_refl _) _).alloc (by simp) _⟩
  · exact (Keep.alloc (fun _=>False) _ _).old (heap_alloc_new w _) id
  · have:=heap_alloc_new (w.alloc (.cells #[.bool false,.bool false,.bool false,.bool false,.bool false,.bool false,.bool false,.bool false] 274)) (.cells #[.bool false,.bool false,.bool false,.bool false,.bool false,.bool false,.bool false,.bool false] 274)
    rw [sg]
    simpa using this
 have HST:=yA hst;clear hst;have hH:w.heap.size<w.heap.size+1:=by omega
 have hge:w.heap.size≤w.heap.size:=by omega
 generalize hW:(w.alloc (.cells #[.bool false,.bool false,.bool false,.bool false,.bool false,.bool false,.bool false,.bool false] 274)).alloc (.cells #[.bool false,.bool false,.bool false,.bool false,.bool false,.bool false,.bool false,.bool false] 274)=W at *;generalize hH1:w.heap.size+1=H1 at *;generalize hH0:w.heap.size=H0 at hH ⊢;have HH0:=yA hH0;clear hW hH1 hH0 hge;have hst2:∃ k N:Nat,(Value.int .i64 (b:Int)) = .int .i64 (N:Int)∧(Value.int .i64 (0:Int)) = .int .i64 (k:Int)∧k≤8∧N<256∧N=b / 2 ^ k∧tp w b k H0 H1 W:=⟨0,b,rfl,rfl,by omega,hb,by simp,by rw [←HH0.out];exact HST.out⟩;have HST2:=yA hst2;clear hst2;go_loopw [4,5] (fun n i wr=>Hid (∃ k N:Nat,n = .int .i64 (N:Int)∧i = .int .i64 (k:Int)∧k≤8∧N<256∧N=b / 2 ^ k∧tp w b k H0 H1 wr)) (fun _ i _=>8 - (intOf i).toNat)
 case atStart=>exact HST2
 case round=>
  obtain ⟨k,N,rfl,rfl,hk,hN,hNe,hr⟩:=hrel.out;clear hrel;have HR:=yA hr;have HN:=yA hNe;clear hr hNe;by_cases hlt:k<8
  · have hc:wr.cell? ⟨H1,k,none⟩=some (.bool false):=by
     rw [cell_of_row wr H1 k _ _ (0,0) HR.out.arr,kC b k k hlt];simp [ij]
    have hf:wr.frozen? ⟨H1,k,none⟩=false:=frozen_of_row wr H1 k _ _ HR.out.arr;have hm:=uy b k;rw [←HN.out] at hm;have HM:=yA hm;have hk1:=Keep.setCell wr H1 k (.bool ((N:Int) % 2==1));have hrow:=aj HR.out.arr k (.bool ((N:Int) % 2==1));rw [sh b k hlt _ hm] at hrow
    have HREL:=yA (show tp w b (k+1) H0 H1 (wr.setCell ⟨H1,k,none⟩ (.bool ((N:Int) % 2==1))) from
     ⟨hk1.old HR.out.res (by omega),hrow,HR.out.below.trans (hk1.below HR.out.below.size (fun i hi h=>by have:=HH0.out;omega))⟩)
    clear hm hk1 hrow;go_wp2_with fail
    go_roundw
    case rel=>exact yA ⟨k+1,N / 2,by go_num,by go_num,by omega,by omega,by rw [HN.out,Nat.div_div_eq_div_mul,Nat.pow_succ],HREL.out⟩
    case measure=>simp [intOf];omega
  · obtain rfl:8=k:=by omega
    have hb:=HR.out.arr;rw [ox] at hb;have hr:=HR.out.res;have hB:=HR.out.below;obtain ⟨k0,k1,k2,k3,k4,k5,k6,k7,k8⟩:=arr8 hb;obtain ⟨j0,j1,j2,j3,j4,j5,j6,j7,j8⟩:=arr8 hr;clear hr;have HB:=yA hB;have HH:=yA (ox b);have HLT:∀ i,i<H0→¬ i=H0:=fun i hi=>by omega
    have HL:=yA HLT;clear hb hB HLT;go_wp2_with fail
    have e1:∀ (W:World) (a:Array Value) (i:Nat) (v:Value),W.heap[H0]?=some (.cells a 274 (0,0))→(W.setCell ⟨H0,i,none⟩ v).heap[H0]?=some (.cells (a.setIfInBounds i v) 274 (0,0)):=fun W a i v h=>aj h i v
    have hres:=e1 _ _ 7 (.bool (aH b 7)) (e1 _ _ 6 (.bool (aH b 6)) (e1 _ _ 5 (.bool (aH b 5)) (e1 _ _ 4 (.bool (aH b 4)) (e1 _ _ 3 (.bool (aH b 3)) (e1 _ _ 2 (.bool (aH b 2)) (e1 _ _ 1 (.bool (aH b 1)) (e1 _ _ 0 (.bool (aH b 0)) HR.out.res)))))));have e2:∀ (W:World) (i:Nat) (v:Value),Below w.heap.size w W→Below w.heap.size w (W.setCell ⟨H0,i,none⟩ v):=fun W i v h=>h.trans ((Keep.setCell W H0 i v).below h.size (fun k hk h=>by have:=HH0.out;omega))
    have hbel:=e2 _ 7 (.bool (aH b 7)) (e2 _ 6 (.bool (aH b 6)) (e2 _ 5 (.bool (aH b 5)) (e2 _ 4 (.bool (aH b 4)) (e2 _ 3 (.bool (aH b 3)) (e2 _ 2 (.bool (aH b 2)) (e2 _ 1 (.bool (aH b 1)) (e2 _ 0 (.bool (aH b 0)) HR.out.below)))))));refine bodyPost_ret (results_cell_row rfl _ _ H0 _ _ _ _ rfl hres Tryz.underlying274 rfl (by kernel_rfl)) rfl ?_;exact ⟨rfl,hbel⟩
end Go.Proofs.YtcaicgipibcicaaGreat
