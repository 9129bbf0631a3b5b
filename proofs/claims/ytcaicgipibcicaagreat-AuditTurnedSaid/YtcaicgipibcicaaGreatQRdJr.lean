/- journal.Read. -/
import Derived.Test.YtcaicgipibcicaaGreatQRdJ
set_option maxRecDepth 100000
set_option maxHeartbeats 8000000
set_option linter.unusedSimpArgs false
set_option linter.unusedVariables false
open Go.Lib renaming hid→wB
open List renaming setIfInBounds_toArray→wU
namespace Go.Proofs.YtcaicgipibcicaaGreat
open Go.RowKit Go.Sort Go.Shelf
def JrPost (w:World) (l0:List Int) (e:Ending) (w':World):Prop:=
 Below w.heap.size w w'∧∃ st:RSt,az l0=st∧
  if st.pos=0 then e = .returned (.tuple #[.agg #[.int .i64 0,.int .i64 0,.int .i64 0,.int .i64 0,.int .i64 0],.slice none 0 0,.int .i64 0,.int .i64 250])
  else ∃ (ao:Option Addr) (cap:Nat) (vs:List RV),e = .returned (.tuple #[.agg #[.int .i64 st.c.q,.int .i64 st.c.d,.int .i64 st.c.w,.int .i64 st.c.ttl,.int .i64 st.c.b],.slice ao vs.length cap,.int .i64 (st.pos:Int),.int .i64 0])∧
   vs.map (·.x)=st.recs∧eS w.heap.size (.slice ao vs.length cap) vs w'∧st.pos≤l0.length
theorem mS (w:World) (ao:Option Addr) (n cap:Nat) (l0:List Int) (hn:l0.length=n) (hb:Byt l0) (hm:n≤1000000000) (hcap:n≤cap) (hr:RdC w ao (cellsOf ah l0)) (hlow:∀ a,ao=some a→a.block<w.heap.size) :
 Calls Tryz.prog 33 #[.slice ao n cap] w (JrPost w l0):=by
 have HB:=wB ((Below.refl w.heap.size w).alloc (Nat.le_refl _) (.cells #[.int .i64 0,.int .i64 0,.int .i64 0,.int .i64 0,.int .i64 0] 23));have HH:=wB (heap_alloc_new w (.cells #[.int .i64 0,.int .i64 0,.int .i64 0,.int .i64 0,.int .i64 0] 23));have HR:=wB (hr.below HB.out);have HN:=wB hn;have HBY:=wB hb;have HM:=wB hm;have HCP:=wB hcap;have HLO:=wB (fun a e=>Nat.lt_of_lt_of_le (hlow a e) HB.out.size);clear hn hb hm hcap hr hlow;go_enter Tryz.func33,Tryz.ntmps33
 go_wp2_with fail
 generalize w.alloc (.cells #[.int .i64 0,.int .i64 0,.int .i64 0,.int .i64 0,.int .i64 0] 23)=W at *;obtain ⟨B,hBE⟩:∃ B,w.heap.size=B:=⟨_,rfl⟩;have HBE:=wB hBE;rw [hBE] at HH ⊢;clear hBE;refine (uI W ao n cap l0 HN.out HBY.out HM.out HCP.out HR.out HLO.out).mono ?_;rintro e w2 ⟨hb2,st,x0,x1,x2,x3,hst,hif⟩;have HB2:=wB (Below.next HB.out hb2);have HT2:=wB ((Keep.of_below hb2 (Nat.le_refl _) (fun _=>False)).old HH.out id);have HBW:=wB (lt_of_block HH.out);have HST:=wB hst;have h2:=HT2.out;obtain ⟨k0,k1,k2,k3,k4⟩:=aK (c:=⟨0,0,0,0,0⟩) h2;have kf:=fun j=>frozen_of_row w2 B j _ _ h2
 clear hb2 h2 hst;by_cases hp:st.pos=0
 · rw [if_pos hp] at hif
   subst hif;have HZ:=wB (nZ HT2.out);go_wp2_with fail
   obtain ⟨z1,kz1⟩:=HZ.out;generalize (((((w2.setCell ⟨B,0,none⟩ (.int .i64 0)).setCell ⟨B,1,none⟩ (.int .i64 0)).setCell ⟨B,2,none⟩ (.int .i64 0)).setCell ⟨B,3,none⟩ (.int .i64 0)).setCell ⟨B,4,none⟩ (.int .i64 0))=w3 at *;obtain ⟨z2,kz2⟩:=nZ z1;generalize (((((w3.setCell ⟨B,0,none⟩ (.int .i64 0)).setCell ⟨B,1,none⟩ (.int .i64 0)).setCell ⟨B,2,none⟩ (.int .i64 0)).setCell ⟨B,3,none⟩ (.int .i64 0)).setCell ⟨B,4,none⟩ (.int .i64 0))=w4 at *;have HF:=wB ((HB2.out.trans (kz1.below HB2.out.size (fun i hi h=>by have:=HBE.out;omega))).trans (kz2.below (Nat.le_trans HB2.out.size kz1.size) (fun i hi h=>by have:=HBE.out;omega)));obtain ⟨v0,v1,v2,v3,v4⟩:=aK (c:=⟨0,0,0,0,0⟩) z2;exact bodyPost_ret (v:=.tuple #[.agg #[.int .i64 0,.int .i64 0,.int .i64 0,.int .i64 0,.int .i64 0],.slice none 0 0,.int .i64 0,.int .i64 250]) (by simp [results,Tryz.results33,go_sem,v0,v1,v2,v3,v4]) rfl ⟨HF.out,st,HST.out,by rw [if_pos hp]⟩
 · rw [if_neg hp] at hif
   obtain ⟨ao2,cap2,vs,rfl,hvs,hrs,hle⟩:=hif;have HVS:=wB hvs;have HRS:=wB hrs;have HLE:=wB hle;have HPN:=wB hp;clear hvs hrs hle hp;have HQ1:=wB (ae (ae (ae (ae (ae HT2.out 0 (.int .i64 st.c.q)) 1 (.int .i64 st.c.d)) 2 (.int .i64 st.c.w)) 3 (.int .i64 st.c.ttl)) 4 (.int .i64 st.c.b));have HK1:=wB (Keep.setCells w2 B 0 st.c.cells);go_wp2_with fail
   have z1:(((((w2.setCell ⟨B,0,none⟩ (.int .i64 st.c.q)).setCell ⟨B,1,none⟩ (.int .i64 st.c.d)).setCell ⟨B,2,none⟩ (.int .i64 st.c.w)).setCell ⟨B,3,none⟩ (.int .i64 st.c.ttl)).setCell ⟨B,4,none⟩ (.int .i64 st.c.b)).heap[B]?=some (.cells #[.int .i64 st.c.q,.int .i64 st.c.d,.int .i64 st.c.w,.int .i64 st.c.ttl,.int .i64 st.c.b] 23 (0,0)):=by
    have q:=HQ1.out;simp only [wU,List.set_cons_zero,List.set_cons_succ] at q;exact q
   have kz1:Keep (fun k=>k=B) w2 (((((w2.setCell ⟨B,0,none⟩ (.int .i64 st.c.q)).setCell ⟨B,1,none⟩ (.int .i64 st.c.d)).setCell ⟨B,2,none⟩ (.int .i64 st.c.w)).setCell ⟨B,3,none⟩ (.int .i64 st.c.ttl)).setCell ⟨B,4,none⟩ (.int .i64 st.c.b)):=HK1.out;generalize (((((w2.setCell ⟨B,0,none⟩ (.int .i64 st.c.q)).setCell ⟨B,1,none⟩ (.int .i64 st.c.d)).setCell ⟨B,2,none⟩ (.int .i64 st.c.w)).setCell ⟨B,3,none⟩ (.int .i64 st.c.ttl)).setCell ⟨B,4,none⟩ (.int .i64 st.c.b))=w3 at *
   have z2:(((((w3.setCell ⟨B,0,none⟩ (.int .i64 st.c.q)).setCell ⟨B,1,none⟩ (.int .i64 st.c.d)).setCell ⟨B,2,none⟩ (.int .i64 st.c.w)).setCell ⟨B,3,none⟩ (.int .i64 st.c.ttl)).setCell ⟨B,4,none⟩ (.int .i64 st.c.b)).heap[B]?=some (.cells #[.int .i64 st.c.q,.int .i64 st.c.d,.int .i64 st.c.w,.int .i64 st.c.ttl,.int .i64 st.c.b] 23 (0,0)):=by
    have q:=ae (ae (ae (ae (ae z1 0 (.int .i64 st.c.q)) 1 (.int .i64 st.c.d)) 2 (.int .i64 st.c.w)) 3 (.int .i64 st.c.ttl)) 4 (.int .i64 st.c.b);simp only [wU,List.set_cons_zero,List.set_cons_succ] at q;exact q
   have kz2:Keep (fun k=>k=B) w3 (((((w3.setCell ⟨B,0,none⟩ (.int .i64 st.c.q)).setCell ⟨B,1,none⟩ (.int .i64 st.c.d)).setCell ⟨B,2,none⟩ (.int .i64 st.c.w)).setCell ⟨B,3,none⟩ (.int .i64 st.c.ttl)).setCell ⟨B,4,none⟩ (.int .i64 st.c.b)):=Keep.setCells w3 B 0 st.c.cells;generalize (((((w3.setCell ⟨B,0,none⟩ (.int .i64 st.c.q)).setCell ⟨B,1,none⟩ (.int .i64 st.c.d)).setCell ⟨B,2,none⟩ (.int .i64 st.c.w)).setCell ⟨B,3,none⟩ (.int .i64 st.c.ttl)).setCell ⟨B,4,none⟩ (.int .i64 st.c.b))=w4 at *;have hk:=kz1.trans kz2 (Z:=fun k=>k=B) (fun _ _ h=>h) (fun _ _ h=>h);have HF:=wB (HB2.out.trans (hk.below HB2.out.size (fun i hi h=>by have:=HBE.out;omega)));have HRF:=wB ((HRS.out.keep hk (fun k e=>by have:=HBW.out;omega)).low (show w.heap.size≤W.heap.size from HB.out.size));obtain ⟨v0,v1,v2,v3,v4⟩:=aK (c:=st.c) z2;exact bodyPost_ret (v:=.tuple #[.agg #[.int .i64 st.c.q,.int .i64 st.c.d,.int .i64 st.c.w,.int .i64 st.c.ttl,.int .i64 st.c.b],.slice ao2 vs.length cap2,.int .i64 (st.pos:Int),.int .i64 0]) (by simp [results,Tryz.results33,go_sem,v0,v1,v2,v3,v4]) rfl ⟨HF.out,st,HST.out,by rw [if_neg HPN.out];exact ⟨ao2,cap2,vs,rfl,HVS.out,HRF.out,HLE.out⟩⟩
end Go.Proofs.YtcaicgipibcicaaGreat
