/- What a log's audit answers, plainly. -/
import Derived.Test.YtcaicgipibcicaaGreatQRdAl
import Derived.Test.YtcaicgipibcicaaGreatQRfC2
import Derived.Test.YtcaicgipibcicaaGreatQRdRg
import Derived.Test.YtcaicgipibcicaaGreatQRfR
import Derived.Test.YtcaicgipibcicaaGreatQRdD2
set_option maxRecDepth 100000
set_option maxHeartbeats 8000000
set_option linter.unusedSimpArgs false
set_option linter.unusedVariables false
open Go renaming all_oneCell_toArray→yU,bodyPost_ret→yS,wpList_store_mid→ze
open Go.Lib renaming hid→yA
open Go.World renaming rangeAt_setCells_same→yJ
open List renaming getElem?_eq_some_iff→yD
open Nat renaming le_refl→yB,le_trans→yV
namespace Go.Proofs.YtcaicgipibcicaaGreat
open Go.RowKit
theorem oI {P:RSt→Prop} (hs:∀ st st' c,P st→bm st c=some st'→P st'):∀ (k:Nat) (a l:List Int) (st:RSt),P st→P (jA k a l st)
 | 0,_,_,st,h=>h
 | k+1,a,l,st,h=>by
   unfold jA;cases h1:bJ a l with
   | none=>exact h
   | some y=>
     obtain ⟨c,s⟩:=y;simp only;cases h2:bm st c with
     | none=>exact h
     | some st'=>exact oI hs k _ _ _ (hs _ _ _ h h2)
theorem oJ (l:List Int):((ff l).pos≠0→al (ff l).c=0)∧(ff l).recs.length≤(ff l).pos:=by
 refine oI (P:=fun st=>(st.pos≠0→al st.c=0)∧st.recs.length≤st.pos) ?_ _ _ _ _ ⟨fun h=>absurd rfl h,yB _⟩;rintro st st' c ⟨h1,h2⟩ h;unfold bm at h;split at h
 · split at h
   · split at h
     · cases h
       rename_i hc
       exact ⟨fun _=>hc,Nat.zero_le _⟩
     · cases h
   · cases h
 · rename_i hp
   split at h
   · split at h
     · cases h
       refine ⟨fun _=>h1 hp,?_⟩
       show (st.recs++[_]).length≤st.pos+(c.length+12)
       rw [List.length_append];simp;omega
     · cases h
   · cases h
def mp:PAu→List aF→Nat→Int→Nat × Int
 | _,[],i,k=>(i,k)
 | a,x::xs,i,k=>if (dj a x).1≠0 then (i,(dj a x).1) else mp (dj a x).2 xs (i+1) k
def fm (l:List Int):Nat × Int:=
 if (ff l).pos=0 then (0,250) else mp ⟨(ff l).c,0,[]⟩ (ff l).recs 0 (if (ff l).pos<l.length then 250 else 0)
theorem rc (a:PAu) (xs:List aF) (i:Nat) (k:Int) (h:xs.length≤i):mp a (xs.drop i) i k=(i,k):=by
 rw [List.drop_of_length_le h];rfl
theorem re {a:PAu} {xs:List aF} {i:Nat} {k:Int} {x:aF} (h:xs[i]?=some x) (h2:(dj a x).1≠0):mp a (xs.drop i) i k=(i,(dj a x).1):=by
 obtain ⟨hi,h⟩:=yD.1 h;rw [List.drop_eq_getElem_cons hi,h,mp,if_pos h2]
theorem oK {a:PAu} {xs:List aF} {i:Nat} {k:Int} {x:aF} (h:xs[i]?=some x) (h2:(dj a x).1=0):mp a (xs.drop i) i k=mp (dj a x).2 (xs.drop (i+1)) (i+1) k:=by
 obtain ⟨hi,h⟩:=yD.1 h;rw [List.drop_eq_getElem_cons hi,h,mp,if_neg (by rw [h2];exact fun e=>e rfl)]
theorem nD {c:ae} (h:al c=0):aB c=true:=by
 unfold al at h;cases hc:aB c with
 | true=>rfl
 | false=>simp [hc] at h
theorem ew.keepA {lo:Nat} {sv:Value} {vs:List RV} {W W':World} {X:Nat→Prop} (h:ew lo sv vs W) (hk:Keep X W W') (hx:∀ k,X k→W.heap.size≤k):ew lo sv vs W':=by
 refine ⟨h.own.keep hk (fun b e hX=>by have h1:=h.own.lt b e;have h2:=hx b hX;omega),h.blk,fun v hv=>?_,fun v hv=>?_⟩
 · obtain ⟨N,M,h1,h2,h3,h4⟩:=h.zone v hv
   exact h1 X _ _ (h.ins v hv) hk (fun k hX=>.inr (yV h3 (hx k hX)))
 · obtain ⟨N,M,h1,h2,h3,h4⟩:=h.zone v hv
   exact ⟨N,M,h1,h2,yV h3 hk.size,h4⟩
theorem ew.apart {lo:Nat} {sv:Value} {vs:List RV} {W:World} {A M:Nat} (h:ew lo sv vs W) (hA:W.heap.size≤A) (hM:W.heap.size≤M):∀ v ∈ vs,kV v A M:=fun v hv X w w' hi hk hx=>by
 obtain ⟨N,M',h1,h2,h3,h4⟩:=h.zone v hv;exact h1 X w w' hi hk (fun k hX=>.inr (by rcases hx k hX with e | e <;> omega))
structure LgAt (W1:World) (A M:Nat) (vs:List RV) (c:ae) (k:Int) (tot:Nat × Int) (j:Nat) (wr:World):Prop where
 ex:∃ a ts,jG a A M (128*j) wr∧Alike a ts∧a.c=c∧mp a ((vs.map (·.x)).drop j) j k=tot
 keep:Keep (fun k=>k=A∨k=M) W1 wr
def mz (w:World) (l0:List Int) (e:Ending) (w':World):Prop:=
 Below w.heap.size w w'∧e = .returned (.agg #[.int .i64 ((fm l0).1:Int),.int .i64 ((fm l0).1:Int),.int .i64 (fm l0).2])
end Go.Proofs.YtcaicgipibcicaaGreat
namespace Go.Proofs.YtcaicgipibcicaaGreat
open Go.RowKit Go.Sort
theorem me (w:World) (ao:Option Addr) (n cap:Nat) (l:List Int) (G:Nat) (hn:l.length=n) (hr:RdC w ao (cellsOf ai l)) (hb:Byt l) (hc:n≤cap) (hm:n≤1000000000) (hG:∀ a,ao=some a→a.block=G) (hGl:G<w.heap.size) :
 Calls Tryz.prog 115 #[.slice ao n cap] w (mv w l):=by
 have hb0:=(Below.refl w.heap.size w).alloc (yB _) (.cells #[.int .i64 0,.slice none 0 0,.slice none 0 0,.int .i64 0,.int .i64 0,.slice none 0 0,.slice none 0 0,.slice none 0 0,.slice none 0 0] 34);have HT0:=yA (heap_alloc_new w (.cells #[.int .i64 0,.slice none 0 0,.slice none 0 0,.int .i64 0,.int .i64 0,.slice none 0 0,.slice none 0 0,.slice none 0 0,.slice none 0 0] 34));have HB0:=yA hb0;have HG:=yA (GR.new (w.alloc (.cells #[.int .i64 0,.slice none 0 0,.slice none 0 0,.int .i64 0,.int .i64 0,.slice none 0 0,.slice none 0 0,.slice none 0 0,.slice none 0 0] 34)) ao n cap l G hn (hr.below hb0) hb hc hm hG (Nat.lt_of_lt_of_le hGl hb0.size));obtain ⟨B,hB⟩:∃ B,w.heap.size=B:=⟨_,rfl⟩;have hs:(w.alloc (.cells #[.int .i64 0,.slice none 0 0,.slice none 0 0,.int .i64 0,.int .i64 0,.slice none 0 0,.slice none 0 0,.slice none 0 0,.slice none 0 0] 34)).heap.size=B+1:=by simp [hB]
 rw [hs] at HG;rw [hB] at HT0;have HBE:=yA hB;clear hn hr hb hG hGl hb0;go_enter Tryz.func115,Tryz.ntmps115
 go_upto_region 2 with fail
 clear hs hB;have HK0:=yA (Keep.alloc (fun _=>False) (w.alloc (.cells #[.int .i64 0,.slice none 0 0,.slice none 0 0,.int .i64 0,.int .i64 0,.slice none 0 0,.slice none 0 0,.slice none 0 0,.slice none 0 0] 34)) (.cells #[.slice ao n cap,.int .i64 0,.bool false] 219));have HT1:=yA (HK0.out.old HT0.out id);have HB1:=yA (HB0.out.trans (HK0.out.below HB0.out.size (fun _ _ h=>h)));clear HT0 HB0 HK0;generalize (w.alloc (.cells #[.int .i64 0,.slice none 0 0,.slice none 0 0,.int .i64 0,.int .i64 0,.slice none 0 0,.slice none 0 0,.slice none 0 0,.slice none 0 0] 34)).alloc (.cells #[.slice ao n cap,.int .i64 0,.bool false] 219)=w0 at *;have HBL:=yA (show B+1<w0.heap.size from HG.out.lt.1);go_wp2_with fail
 refine (rg w0 (B+1) G (some l) HG.out).mono ?_;rintro e w1 ⟨v,rfl,s1,hst,hg,hk,hin⟩;have HST:=yA hst;have HIN:=yA hin;have HT2:=yA (hk.old HT1.out (by omega));have HB2:=yA (HB1.out.trans (hk.below HB1.out.size (fun k hk he=>by have:=HBE.out;omega)));have HLE:=yA hk.size;have HG1:=yA hg;clear hst hin hg hk HG HT1 HB1;go_upto_region 3 with (first | ((with_reducible refine ah (o:=⟨none,.store 34 (.tmp 5) (.tmp 12),_,_,_,_⟩) ?_ 34 (.tmp 5) (.tmp 12) ?_ _ #[.int .i64 v.x.tick,.slice v.wo v.wn v.wc,.slice v.ko v.kn v.kc,.int .i64 v.x.rows,.int .i64 v.x.cols,.slice v.eo v.en v.ec,.slice v.po v.pn v.pc,.slice v.yo v.yn v.yc,.slice v.zo v.zn v.zc] ?_ ?_ v.cells ?_ ?_ ?_ (RV.cells_one v) ?_);rfl;rfl;rfl;rfl;rfl;exact bt;rfl))
 have HK3:=yA (Keep.alloc (fun _=>False) w1 (.cells #[.int .i64 v.x.tick,.slice v.wo v.wn v.wc,.slice v.ko v.kn v.kc,.int .i64 v.x.rows,.int .i64 v.x.cols,.slice v.eo v.en v.ec,.slice v.po v.pn v.pc,.slice v.yo v.yn v.yc,.slice v.zo v.zn v.zc] 34));have HH3:=yA (heap_alloc_new w1 (.cells #[.int .i64 v.x.tick,.slice v.wo v.wn v.wc,.slice v.ko v.kn v.kc,.int .i64 v.x.rows,.int .i64 v.x.cols,.slice v.eo v.en v.ec,.slice v.po v.pn v.pc,.slice v.yo v.yn v.yc,.slice v.zo v.zn v.zc] 34));obtain ⟨H,hH⟩:∃ H,w1.heap.size=H:=⟨_,rfl⟩;have HHL:=yA (show B+1<H from by rw [←hH];exact Nat.lt_of_lt_of_le HBL.out HLE.out);have HZH:=yA hH;rw [hH] at HH3;try rw [hH]
 have HS3:=yA (show (w1.alloc (.cells #[.int .i64 v.x.tick,.slice v.wo v.wn v.wc,.slice v.ko v.kn v.kc,.int .i64 v.x.rows,.int .i64 v.x.cols,.slice v.eo v.en v.ec,.slice v.po v.pn v.pc,.slice v.yo v.yn v.yc,.slice v.zo v.zn v.zc] 34)).heap.size=H+1 from by simp [hH]);have HIN3:=yA (fun hne=>(HIN.out hne).1 |> fun h=>(HIN.out hne).2 (fun _=>False) _ _ h HK3.out (fun _ h=>h.elim));have HZ3:=yA (fun hne=>(HIN.out hne).2);rw [hH] at HZ3;generalize w1.alloc (.cells #[.int .i64 v.x.tick,.slice v.wo v.wn v.wc,.slice v.ko v.kn v.kc,.int .i64 v.x.rows,.int .i64 v.x.cols,.slice v.eo v.en v.ec,.slice v.po v.pn v.pc,.slice v.yo v.yn v.yc,.slice v.zo v.zn v.zc] 34)=w3 at *;have HG3:=yA (HG1.out.keep HK3.out id id);have HT3:=yA (HK3.out.old HT2.out id);have HB3:=yA (HB2.out.trans (HK3.out.below HB2.out.size (fun _ _ h=>h)));have HBR:=yA (show w.heap.size≤B+1 from by rw [HBE.out];omega);have HBZ:=yA (show w.heap.size≤w0.heap.size from by have:=HBL.out;have:=HBE.out;omega);clear hH HG1 HT2 HB2 HIN HK3
 have HCE:=yA (fun (j:Nat) (u:Value) (hu:v.cells[j]?=some u)=>show w3.cell? ⟨H,0+j,none⟩=some u from by
  rw [Nat.zero_add,cell_of_row _ _ _ _ _ (0,0) HH3.out,←hu];simp [RV.cells])
 have sz_rec':(Tryz.prog.info? 34).map (·.size)=some (#[.int .i64 0,.slice none 0 0,.slice none 0 0,.int .i64 0,.int .i64 0,.slice none 0 0,.slice none 0 0,.slice none 0 0,.slice none 0 0]:Array Value).size:=bt
 have HTH:=yA (show w3.there B 0 (#[.int .i64 0,.slice none 0 0,.slice none 0 0,.int .i64 0,.int .i64 0,.slice none 0 0,.slice none 0 0,.slice none 0 0,.slice none 0 0]:Array Value).size from aw HT3.out (yB 9))
 have HNONE:=yA (fun (w':World) (er:Int) (hk:Keep (fun _=>False) w3 w') (her:er≠0) (hd:eU l=none)=>show mv w l (.returned (.tuple #[.agg #[.int .i64 0,.slice none 0 0,.slice none 0 0,.int .i64 0,.int .i64 0,.slice none 0 0,.slice none 0 0,.slice none 0 0,.slice none 0 0],.int .i64 er])) (w'.setCells B 0 gK.cells) from by
  refine ⟨(HB3.out.trans (hk.below HB3.out.size (fun _ _ h=>h))).trans ((Keep.setCells w' B 0 gK.cells).below (yV HB3.out.size hk.size) (fun i hi e=>by have:=HBE.out;omega)),gK,er,rfl,?_⟩;rw [hd];exact her)
 cases s1 with
 | none=>
   have HDN:=yA (show eU l=none from by
    have h1:=HST.out.1;simp only [Option.bind_some] at h1;cases hp:mn l with
    | none=>simp [eU,hp]
    | some y=>rw [hp] at h1;cases h1)
   go_wp2_with fail
   refine (bK w3 (B+1) G none HG3.out).mono ?_;rintro e w4 ⟨rfl,rfl⟩;go_wp2_with fail
   refine (sP w4 (B+1) G HG3.out).mono ?_;rintro e w5 ⟨er,rfl,her,rfl⟩;have HER:=yA her;clear her;go_wp2_with (first | ((with_reducible refine ze (op:=⟨none,.store 34 (.tmp 2) (.tmp 15),_,_,_,_⟩) ?_ 34 (.tmp 2) (.tmp 15) ?_ B 0 #[.int .i64 0,.slice none 0 0,.slice none 0 0,.int .i64 0,.int .i64 0,.slice none 0 0,.slice none 0 0,.slice none 0 0,.slice none 0 0] ?_ ?_ HTH.out sz_rec' ?_ ?_);rfl;rfl;rfl;rfl;exact yU (RV.cells_one gK)))
   exact yS (v:=.tuple #[.agg #[.int .i64 0,.slice none 0 0,.slice none 0 0,.int .i64 0,.int .i64 0,.slice none 0 0,.slice none 0 0,.slice none 0 0,.slice none 0 0],.int .i64 er]) (results_cell_tmp 2 3 34 Tryz.results115 B rfl _ rfl gK.cells _ rfl _ (yJ w5 B 0 gK.cells HTH.out) Tryz.underlying34 rfl bt) rfl (HNONE.out w5 er (Keep.refl _ _) HER.out HDN.out)
 | some r=>
   have HVAL:=yA (show mn l=some (v.x,r) from by
    have h1:=HST.out.1;have h2:=HST.out.2;simp only [Option.bind_some] at h1 h2;cases hv:mn l with
    | none=>rw [hv] at h1;cases h1
    | some y=>
      obtain ⟨y,r'⟩:=y;rw [hv] at h1;have:=h2 y r' hv;simp at h1;rw [this,h1])
   go_wp2_with fail
   refine (bK w3 (B+1) G (some r) HG3.out).mono ?_;rintro e w4 ⟨rfl,rfl⟩
   have HRA:=yA (show ∃ ao' c',nT w4 (B+1) ao' r.length c' 0 false from by
    obtain ⟨t,wide,h1,h2,⟨l',h3,rfl,rfl⟩ | ⟨h3,_⟩⟩:=HG3.out
    · cases h3
      obtain ⟨ao',c',h4,_⟩:=h1;exact ⟨ao',c',h4⟩
    · cases h3)
   obtain ⟨ao',c',hra⟩:=HRA.out;obtain ⟨g0,g1,g2,gf⟩:=cells3 hra;clear hra HRA;cases r with
   | cons z r=>
     have b1:decide ((0:Int)<(((z::r).length:Nat):Int))=true:=decide_eq_true (by rw [List.length_cons];omega);have b1':decide (0<(z::r).length)=true:=decide_eq_true (by simp);have HDN:=yA (show eU l=none from by simp [eU,HVAL.out]);obtain ⟨k,hk⟩:∃ k,(z::r).length=k:=⟨_,rfl⟩;rw [hk] at g0 b1 b1';clear hk;go_wp2_with (first | ((with_reducible refine ze (op:=⟨none,.store 34 (.tmp 2) (.tmp 25),_,_,_,_⟩) ?_ 34 (.tmp 2) (.tmp 25) ?_ B 0 #[.int .i64 0,.slice none 0 0,.slice none 0 0,.int .i64 0,.int .i64 0,.slice none 0 0,.slice none 0 0,.slice none 0 0,.slice none 0 0] ?_ ?_ HTH.out sz_rec' ?_ ?_);rfl;rfl;rfl;rfl;exact yU (RV.cells_one gK)))
     exact yS (v:=.tuple #[.agg #[.int .i64 0,.slice none 0 0,.slice none 0 0,.int .i64 0,.int .i64 0,.slice none 0 0,.slice none 0 0,.slice none 0 0,.slice none 0 0],.int .i64 20]) (results_cell_tmp 2 3 34 Tryz.results115 B rfl _ rfl gK.cells _ rfl _ (yJ w4 B 0 gK.cells HTH.out) Tryz.underlying34 rfl bt) rfl (HNONE.out w4 20 (Keep.refl _ _) (by decide) HDN.out)
   | nil=>
     have g0':w4.cell? ⟨B+1,0,none⟩=some (.slice ao' 0 c'):=g0;clear g0;have HI:=yA (HIN3.out (by simp));have HZ:=yA (HZ3.out (by simp));go_wp2_with (first | ((with_reducible refine aa (o:=⟨some 26,_,_,_,_,_⟩) ?_ 34 (.tmp 5) ?_ H 0 ?_ v.cells #[.int .i64 v.x.tick,.slice v.wo v.wn v.wc,.slice v.ko v.kn v.kc,.int .i64 v.x.rows,.int .i64 v.x.cols,.slice v.eo v.en v.ec,.slice v.po v.pn v.pc,.slice v.yo v.yn v.yc,.slice v.zo v.zn v.zc] ?_ _ HCE.out Tryz.underlying34 ?_ ?_ ?_);rfl;rfl;rfl;rfl;rfl;exact bt))
     refine (sM w4 v HI.out).mono ?_;rintro e w5 ⟨rfl,hb5⟩;have HK5:=yA (Keep.of_below hb5 (yB _) (fun _=>False));have HTH5:=yA (aq HTH.out HK5.out id);have HCE5:=yA (fun (j:Nat) (u:Value) (hu:v.cells[j]?=some u)=>show w5.cell? ⟨H,0+j,none⟩=some u from HK5.out.cell (HCE.out j u hu) id);clear hb5 g0' g1 g2 gf;by_cases hrc:bw v.x=0
     · have b1:(bw v.x != 0)=false:=by simp [hrc]
       have HDF:=yA (show eU l=some v.x from by simp [eU,HVAL.out,hrc]);clear hrc;have HTH6:=yA (show w5.there B 0 (#[.int .i64 v.x.tick,.slice v.wo v.wn v.wc,.slice v.ko v.kn v.kc,.int .i64 v.x.rows,.int .i64 v.x.cols,.slice v.eo v.en v.ec,.slice v.po v.pn v.pc,.slice v.yo v.yn v.yc,.slice v.zo v.zn v.zc]:Array Value).size from HTH5.out);have sz_rec2:(Tryz.prog.info? 34).map (·.size)=some (#[.int .i64 v.x.tick,.slice v.wo v.wn v.wc,.slice v.ko v.kn v.kc,.int .i64 v.x.rows,.int .i64 v.x.cols,.slice v.eo v.en v.ec,.slice v.po v.pn v.pc,.slice v.yo v.yn v.yc,.slice v.zo v.zn v.zc]:Array Value).size:=bt
       have HKF:=yA (Keep.setCells w5 B 0 v.cells)
       have HFIN:=yA (show mv w l (.returned (.tuple #[.agg #[.int .i64 v.x.tick,.slice v.wo v.wn v.wc,.slice v.ko v.kn v.kc,.int .i64 v.x.rows,.int .i64 v.x.cols,.slice v.eo v.en v.ec,.slice v.po v.pn v.pc,.slice v.yo v.yn v.yc,.slice v.zo v.zn v.zc],.int .i64 0])) (w5.setCells B 0 v.cells) from by
        have hz:=HZ.out;refine ⟨(HB3.out.trans (HK5.out.below HB3.out.size (fun _ _ h=>h))).trans (HKF.out.below (yV HB3.out.size HK5.out.size) (fun i hi e=>by have:=HBE.out;omega)),v,0,rfl,?_⟩;rw [HDF.out];have hlow:∀ k,k=B→k<w0.heap.size∨H≤k:=fun k e=>.inl (by have:=HBL.out;omega)
        refine ⟨rfl,rfl,hz _ _ _ (hz _ _ _ HI.out HK5.out (fun _ h=>h.elim)) HKF.out hlow,hz.wide HBZ.out ?_⟩;have h1:=HS3.out;have h2:=HK5.out.size;have h3:=HKF.out.size;omega)
       go_wp2_with (first | ((with_reducible refine aa (o:=⟨some 32,_,_,_,_,_⟩) ?_ 34 (.tmp 5) ?_ H 0 ?_ v.cells #[.int .i64 v.x.tick,.slice v.wo v.wn v.wc,.slice v.ko v.kn v.kc,.int .i64 v.x.rows,.int .i64 v.x.cols,.slice v.eo v.en v.ec,.slice v.po v.pn v.pc,.slice v.yo v.yn v.yc,.slice v.zo v.zn v.zc] ?_ _ HCE5.out Tryz.underlying34 ?_ ?_ ?_);rfl;rfl;rfl;rfl;rfl;exact bt) | ((with_reducible refine ze (op:=⟨none,.store 34 (.tmp 2) (.tmp 32),_,_,_,_⟩) ?_ 34 (.tmp 2) (.tmp 32) ?_ B 0 #[.int .i64 v.x.tick,.slice v.wo v.wn v.wc,.slice v.ko v.kn v.kc,.int .i64 v.x.rows,.int .i64 v.x.cols,.slice v.eo v.en v.ec,.slice v.po v.pn v.pc,.slice v.yo v.yn v.yc,.slice v.zo v.zn v.zc] ?_ ?_ HTH6.out sz_rec2 ?_ ?_);rfl;rfl;rfl;rfl;exact yU (RV.cells_one v)))
       exact yS (v:=.tuple #[.agg #[.int .i64 v.x.tick,.slice v.wo v.wn v.wc,.slice v.ko v.kn v.kc,.int .i64 v.x.rows,.int .i64 v.x.cols,.slice v.eo v.en v.ec,.slice v.po v.pn v.pc,.slice v.yo v.yn v.yc,.slice v.zo v.zn v.zc],.int .i64 0]) (results_cell_tmp 2 3 34 Tryz.results115 B rfl _ rfl v.cells _ rfl _ (yJ w5 B 0 v.cells HTH6.out) Tryz.underlying34 rfl bt) rfl HFIN.out
     · have b1:(bw v.x != 0)=true:=by simp [hrc]
       have HDN:=yA (show eU l=none from by simp [eU,HVAL.out,hrc]);have HER:=yA hrc;clear hrc;have HTH6:=yA (show w5.there B 0 (#[.int .i64 0,.slice none 0 0,.slice none 0 0,.int .i64 0,.int .i64 0,.slice none 0 0,.slice none 0 0,.slice none 0 0,.slice none 0 0]:Array Value).size from HTH5.out);go_wp2_with (first | ((with_reducible refine ze (op:=⟨none,.store 34 (.tmp 2) (.tmp 30),_,_,_,_⟩) ?_ 34 (.tmp 2) (.tmp 30) ?_ B 0 #[.int .i64 0,.slice none 0 0,.slice none 0 0,.int .i64 0,.int .i64 0,.slice none 0 0,.slice none 0 0,.slice none 0 0,.slice none 0 0] ?_ ?_ HTH6.out sz_rec' ?_ ?_);rfl;rfl;rfl;rfl;exact yU (RV.cells_one gK)))
       exact yS (v:=.tuple #[.agg #[.int .i64 0,.slice none 0 0,.slice none 0 0,.int .i64 0,.int .i64 0,.slice none 0 0,.slice none 0 0,.slice none 0 0,.slice none 0 0],.int .i64 (bw v.x)]) (results_cell_tmp 2 3 34 Tryz.results115 B rfl _ rfl gK.cells _ rfl _ (yJ w5 B 0 gK.cells HTH6.out) Tryz.underlying34 rfl bt) rfl (HNONE.out w5 (bw v.x) HK5.out HER.out HDN.out)
end Go.Proofs.YtcaicgipibcicaaGreat
