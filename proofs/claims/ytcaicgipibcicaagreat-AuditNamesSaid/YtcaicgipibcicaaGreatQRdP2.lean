/- The gate reads a configuration. -/
import Derived.Test.YtcaicgipibcicaaGreatQRdD2
import Derived.BigRegion
import Derived.Test.YtcaicgipibcicaaGreatQEnc
import Derived.Test.YtcaicgipibcicaaGreatQSumA
set_option maxRecDepth 100000
set_option maxHeartbeats 8000000
set_option linter.unusedSimpArgs false
set_option linter.unusedVariables false
open Go.Lib renaming hid→wB
open Go.World renaming cell?_alloc_mark→xD
open List renaming append_assoc→wP,length_map→xu
open Nat renaming zero_add→wL
namespace Go.Proofs.YtcaicgipibcicaaGreat
open Go.RowKit Go.Sort
def je:aW ag:=dT (fun xs:List Int=>⟨xs.getD 0 0,xs.getD 1 0,xs.getD 2 0,xs.getD 3 0,xs.getD 4 0⟩) (dm (cz em) 5)
structure lQ (w:World) (g R G P BL:Nat) (s:Option (List Int)) (j:Nat) (xs:List Int) (sj:Option (List Int)) (wr:World):Prop where
 len:xs.length=j
 ok:∀ x ∈ xs,ar x
 gate:GtR wr g R G sj
 step:Step (dm (cz em) j) s sj xs
 put:aq w g R P 0 5 wr
 cells:wr.rangeAt P 0 (xs.map (Value.int .i64)++List.replicate (5 - j) (.int .i64 0))
 room:wr.there P 0 5
 ptrs:wr.heap[BL]?=some (.cells #[.pointer (some ⟨P,0,none⟩),.pointer (some ⟨P,1,none⟩),.pointer (some ⟨P,2,none⟩),.pointer (some ⟨P,3,none⟩),.pointer (some ⟨P,4,none⟩)] 194 (0,0))
theorem lQ.next {w:World} {g R G P BL:Nat} {s:Option (List Int)} {j:Nat} {xs:List Int} {sj:Option (List Int)} {wr w':World} (h:lQ w g R G P BL s j xs sj wr) (hj:j<5) (hB:BL≠g∧BL≠R∧BL≠P)
 (hp:aE wr g R G P j 1 sj (cz em) (fun x=>[.int .i64 x]) ar w'):∃ x s2,lQ w g R G P BL s (j+1) (xs++[x]) s2 w':=by
 obtain ⟨x,s2,h1,h2,h3,h4,h5⟩:=hp;refine ⟨x,s2,by simp [h.len],fun y hy=>?_,h2,Step.rep1 h.step h3,h.put.trans (h4.wide (by omega) (by omega)),?_,h4.room _ _ h.room,h4.keep.old h.ptrs (by show ¬ (BL=g∨BL=R∨BL=P);omega)⟩
 · rcases List.mem_append.1 hy with hy | hy
   · exact h.ok y hy
   · cases List.mem_singleton.1 hy;exact h1
 · have hv:w'.cell? ⟨P,j,none⟩=some (.int .i64 x):=h5 0 _ rfl
   have:=lT h.cells h4 hv
   have he:(xs.map (Value.int .i64)++List.replicate (5 - j) (Value.int .i64 0)).set j (Value.int .i64 x)=(xs++[x]).map (Value.int .i64)++List.replicate (5 - (j+1)) (Value.int .i64 0):=by
    rw [List.set_append_right _ _ (by rw [xu,h.len];omega),xu,h.len,Nat.sub_self,show 5 - j=(5 - (j+1))+1 by omega,List.replicate_succ,List.set_cons_zero];simp
   rwa [he] at this
def uN (w:World) (g R G P:Nat) (s:Option (List Int)) (w':World):Prop:=aE w g R G P 0 5 s je ag.cells ag.Ok w'
theorem vY {xs:List Int} (h:xs.length=5):∃ a b c d e,xs=[a,b,c,d,e]:=by
 match xs,h with
 | [a,b,c,d,e],_=>exact ⟨a,b,c,d,e,rfl⟩
theorem lQ.end_ {w:World} {g R G P BL:Nat} {s:Option (List Int)} {xs:List Int} {sj:Option (List Int)} {wr:World} (h:lQ w g R G P BL s 5 xs sj wr):uN w g R G P s wr:=by
 obtain ⟨a,b,c,d,e,rfl⟩:=vY h.len;refine ⟨⟨a,b,c,d,e⟩,sj,⟨h.ok a (by simp),h.ok b (by simp),h.ok c (by simp),h.ok d (by simp),h.ok e (by simp)⟩,h.gate,h.step.map (fun xs:List Int=>(⟨xs.getD 0 0,xs.getD 1 0,xs.getD 2 0,xs.getD 3 0,xs.getD 4 0⟩:ag)) _ (fun l=>rfl),h.put,h.cells⟩
theorem sS (w:World) (g R G P:Nat) (s:Option (List Int)) (h:GtR w g R G s) (hold:w.heap[P]?=some (.cells #[.int .i64 0,.int .i64 0,.int .i64 0,.int .i64 0,.int .i64 0] 23 (0,0))) (hP:P≠g∧P≠R∧P≠G) :
 Calls Tryz.prog 77 #[.pointer (some ⟨g,0,none⟩),.pointer (some ⟨P,0,none⟩)] w fun e w'=>e = .returned (.tuple #[])∧uN w g R G P s w':=by
 have H:=wB h;have HO:=wB hold;have HP:=wB hP;have HPL:=wB (lt_of_block hold);clear h hold hP;go_enter Tryz.func77,Tryz.ntmps77
 go_wp2_with fail
 go_region
 go_wp2_with fail
 have HLT:=wB H.out.lt
 have H0:=wB (show lQ w g R G P w.heap.size s 0 [] s (w.alloc (.cells #[.pointer (some ⟨P,0,none⟩),.pointer (some ⟨P,1,none⟩),.pointer (some ⟨P,2,none⟩),.pointer (some ⟨P,3,none⟩),.pointer (some ⟨P,4,none⟩)] 194)).drew from by
  have hk:=Keep.alloc (fun _=>False) w (.cells #[.pointer (some ⟨P,0,none⟩),.pointer (some ⟨P,1,none⟩),.pointer (some ⟨P,2,none⟩),.pointer (some ⟨P,3,none⟩),.pointer (some ⟨P,4,none⟩)] 194);have hr:=hk.old HO.out id;refine ⟨rfl,(fun x hx=>by cases hx),(H.out.keep hk id id id).below (Below.refl _ _).drew,Step.rep0 _ _,aq.of_keep (hk.trans (Keep.drew (fun _=>False) _) (fun _ _ h=>h) (fun _ _ h=>h)) (fun _ h=>h.elim),fun j u hu=>?_,aP hr (Nat.le_refl 5),heap_alloc_new w _⟩;rw [wL];exact (cell_of_row _ _ _ _ _ (0,0) hr).trans (by rw [←hu];simp [List.replicate_succ]))
 generalize (w.alloc (.cells #[.pointer (some ⟨P,0,none⟩),.pointer (some ⟨P,1,none⟩),.pointer (some ⟨P,2,none⟩),.pointer (some ⟨P,3,none⟩),.pointer (some ⟨P,4,none⟩)] 194)).drew=W at *;obtain ⟨BL,hBL⟩:∃ BL,w.heap.size=BL:=⟨_,rfl⟩;have HBN:=wB (show BL≠g∧BL≠R∧BL≠P from by have h1:=HLT.out;have h2:=HPL.out;omega);rw [hBL];rw [hBL] at H0;clear hBL H HO;go_loopw [23] (fun i wr=>Hid (∃ (j:Nat) (xs:List Int) (sj:Option (List Int)),i = .int .i64 j∧j≤5∧lQ w g R G P BL s j xs sj wr)) (fun i _=>5 - (intOf i).toNat)
 case atStart=>exact wB ⟨0,[],s,rfl,Nat.zero_le _,H0.out⟩
 case round=>
  clear H0;obtain ⟨j,xs,sj,rfl,hj,hr⟩:=hrel.out;clear hrel;have HR:=wB hr;clear hr;by_cases hlt:j<5
  · have b1:decide ((j:Int)<5)=true:=decide_eq_true (by omega)
    have lc:wr.cell? ⟨BL,j,none⟩=some (.pointer (some ⟨P,j,none⟩)):=by
     rw [cell_of_row _ _ _ _ _ (0,0) HR.out.ptrs];obtain rfl | rfl | rfl | rfl | rfl:j=0∨j=1∨j=2∨j=3∨j=4:=by omega
     all_goals rfl
    go_wp2_with fail
    refine (dy wr g R G P j sj HR.out.gate em (by decide) 0 (by
     have:=HR.out.cells j (.int .i64 0) (by rw [List.getElem?_append_right (by rw [xu,HR.out.len];exact Nat.le_refl _),xu,HR.out.len,Nat.sub_self,show 5 - j=(5 - (j+1))+1 by omega,List.replicate_succ];rfl);rwa [wL] at this) fQ (by have:=aF HR.out.room j 1 (by omega);rwa [wL] at this) HP.out).mono ?_
    rintro e w2 ⟨rfl,hp⟩;obtain ⟨x,s2,h2⟩:=HR.out.next hlt HBN.out hp;have HR2:=wB h2;clear h2 hp lc;go_wp2_with fail
    go_roundw
    case rel=>exact wB ⟨j+1,xs++[x],s2,by go_num,hlt,HR2.out⟩
    case measure=>simp [intOf];omega
  · obtain rfl:j=5:=by omega
    have HE:=wB HR.out.end_;go_wp2_with fail
    exact bodyPost_end (v:=.tuple #[]) (by simp [results,Tryz.results77,go_sem]) rfl ⟨rfl,HE.out⟩
def be4 (v:Nat):List Int:=[(v:Int) / 16777216,(v:Int) / 65536 % 256,(v:Int) / 256 % 256,(v:Int) % 256]
theorem jg (v:Nat) (hv:v<4294967296):Byt (be4 v):=by
 intro x hx;simp only [be4,List.mem_cons,List.not_mem_nil,or_false] at hx;rcases hx with rfl | rfl | rfl | rfl <;> omega
theorem lR (w:World) (WB:Nat) (sv:Value) (l:List Int) (h:W1 w WB sv l) (v:Nat) (hv:v<4294967296) (hl:l.length≤1000) :
 Calls Tryz.prog 123 #[.pointer (some ⟨WB,0,none⟩),.int .u64 v,.int .i64 4] w fun e w'=>e = .returned (.int .i64 0)∧Wrote w WB sv (l++be4 v) w':=by
 obtain ⟨s0,s1⟩:=h.cells;have H0:=wB (show Wrote w WB sv (l++(be4 v).take 0) w from by rw [List.take_zero,List.append_nil];exact Wrote.nil h);clear h;have b0:((v:Int) / 4294967296 != 0)=false:=by simp;omega
 go_enter Tryz.func123,Tryz.ntmps123
 go_wp2_with fail
 go_loopw [7] (fun i wr=>Hid (∃ j:Nat,j≤4∧i = .int .i64 (3 - (j:Int))∧Wrote w WB sv (l++(be4 v).take j) wr)) (fun i _=>(intOf i+1).toNat)
 case atStart=>exact wB ⟨0,by omega,rfl,H0.out⟩
 case round=>
  clear H0 s0 s1;obtain ⟨j,hj,rfl,hr⟩:=hrel.out;clear hrel;have HR:=wB hr;clear hr;obtain rfl | rfl | rfl | rfl | rfl:j=0∨j=1∨j=2∨j=3∨j=4:=by omega
  · have HA:=wB (show ∃ sv1,W1 wr WB sv1 (l++(be4 v).take 0)∧Keep (fun k=>k=WB∨sv.ownBlock=some k) w wr∧∀ g,sv1.ownBlock=some g→sv.ownBlock=some g∨w.heap.size≤g from HR.out)
    obtain ⟨sv1,hA⟩:=HA.out;have HB:=wB hA;clear hA HA HR;go_wp2_with fail
    refine (put_any (wr.alloc (.cells #[.int .u8 ((v:Int) / 16777216)] 5)) WB sv1 (l++(be4 v).take 0) [(v:Int) / 16777216] (HB.out.1.alloc _) wr.heap.size 0 1 1 rfl (by omega) (fun j u hu=>by
     rw [xD]
     simpa [cellsOf,ah] using hu) (by simp [be4];omega)).mono ?_
    rintro e w2 ⟨rfl,h2⟩
    have HR2:=wB (show Wrote w WB sv (l++(be4 v).take 1) w2 from by
     have h3:=Wrote.step HB.out.2.1 HB.out.2.2 (Wrote.after (Keep.alloc (fun _=>False) wr _) h2);rw [wP] at h3;exact h3)
    clear h2 HB;go_wp2_with fail
    go_roundw
    case rel=>exact wB ⟨1,by omega,by go_num,HR2.out⟩
    case measure=>simp [intOf]
  · have HA:=wB (show ∃ sv1,W1 wr WB sv1 (l++(be4 v).take 1)∧Keep (fun k=>k=WB∨sv.ownBlock=some k) w wr∧∀ g,sv1.ownBlock=some g→sv.ownBlock=some g∨w.heap.size≤g from HR.out)
    obtain ⟨sv1,hA⟩:=HA.out;have HB:=wB hA;clear hA HA HR;go_wp2_with fail
    refine (put_any (wr.alloc (.cells #[.int .u8 ((v:Int) / 65536 % 256)] 5)) WB sv1 (l++(be4 v).take 1) [(v:Int) / 65536 % 256] (HB.out.1.alloc _) wr.heap.size 0 1 1 rfl (by omega) (fun j u hu=>by
     rw [xD]
     simpa [cellsOf,ah] using hu) (by simp [be4];omega)).mono ?_
    rintro e w2 ⟨rfl,h2⟩
    have HR2:=wB (show Wrote w WB sv (l++(be4 v).take 2) w2 from by
     have h3:=Wrote.step HB.out.2.1 HB.out.2.2 (Wrote.after (Keep.alloc (fun _=>False) wr _) h2);rw [wP] at h3;exact h3)
    clear h2 HB;go_wp2_with fail
    go_roundw
    case rel=>exact wB ⟨2,by omega,by go_num,HR2.out⟩
    case measure=>simp [intOf]
  · have HA:=wB (show ∃ sv1,W1 wr WB sv1 (l++(be4 v).take 2)∧Keep (fun k=>k=WB∨sv.ownBlock=some k) w wr∧∀ g,sv1.ownBlock=some g→sv.ownBlock=some g∨w.heap.size≤g from HR.out)
    obtain ⟨sv1,hA⟩:=HA.out;have HB:=wB hA;clear hA HA HR;go_wp2_with fail
    refine (put_any (wr.alloc (.cells #[.int .u8 ((v:Int) / 256 % 256)] 5)) WB sv1 (l++(be4 v).take 2) [(v:Int) / 256 % 256] (HB.out.1.alloc _) wr.heap.size 0 1 1 rfl (by omega) (fun j u hu=>by
     rw [xD]
     simpa [cellsOf,ah] using hu) (by simp [be4];omega)).mono ?_
    rintro e w2 ⟨rfl,h2⟩
    have HR2:=wB (show Wrote w WB sv (l++(be4 v).take 3) w2 from by
     have h3:=Wrote.step HB.out.2.1 HB.out.2.2 (Wrote.after (Keep.alloc (fun _=>False) wr _) h2);rw [wP] at h3;exact h3)
    clear h2 HB;go_wp2_with fail
    go_roundw
    case rel=>exact wB ⟨3,by omega,by go_num,HR2.out⟩
    case measure=>simp [intOf]
  · have HA:=wB (show ∃ sv1,W1 wr WB sv1 (l++(be4 v).take 3)∧Keep (fun k=>k=WB∨sv.ownBlock=some k) w wr∧∀ g,sv1.ownBlock=some g→sv.ownBlock=some g∨w.heap.size≤g from HR.out)
    obtain ⟨sv1,hA⟩:=HA.out;have HB:=wB hA;clear hA HA HR;go_wp2_with fail
    refine (put_any (wr.alloc (.cells #[.int .u8 ((v:Int) % 256)] 5)) WB sv1 (l++(be4 v).take 3) [(v:Int) % 256] (HB.out.1.alloc _) wr.heap.size 0 1 1 rfl (by omega) (fun j u hu=>by
     rw [xD]
     simpa [cellsOf,ah] using hu) (by simp [be4];omega)).mono ?_
    rintro e w2 ⟨rfl,h2⟩
    have HR2:=wB (show Wrote w WB sv (l++(be4 v).take 4) w2 from by
     have h3:=Wrote.step HB.out.2.1 HB.out.2.2 (Wrote.after (Keep.alloc (fun _=>False) wr _) h2);rw [wP] at h3;exact h3)
    clear h2 HB;go_wp2_with fail
    go_roundw
    case rel=>exact wB ⟨4,by omega,by go_num,HR2.out⟩
    case measure=>simp [intOf]
  · have HE:=HR.out
    rw [show (be4 v).take 4=be4 v from rfl] at HE;have HE:=wB HE;go_wp2_with fail
    go_ret
    exact ⟨rfl,HE.out⟩
def beI (d:List Int):Int:=d.foldl (fun a x=>a*256+x) 0
def nB:aW Int:=dT beI (bK 4)
theorem kQ {a x:Int} (h1:0≤a) (h2:a<72057594037927936) (h3:0≤x) (h4:x≤255):bits .or .u64 (a*256) x=a*256+x:=by
 obtain ⟨n,rfl⟩:∃ n:Nat,a=n:=⟨a.toNat,by omega⟩;obtain ⟨m,rfl⟩:∃ m:Nat,x=m:=⟨x.toNat,by omega⟩;have h5:n*256<18446744073709551616:=by omega
 have h6:m<18446744073709551616:=by omega
 have e:((n:Int)*256)=((n*256:Nat):Int):=by push_cast;rfl
 have h:=Nat.two_pow_add_eq_or_of_lt (i:=8) (b:=m) (by show m<256;omega) n
 have h7:n*256 ||| m=n*256+m:=by
  rw [Nat.mul_comm n 256];exact h.symm
 rw [e,bits_or_u64_nat (n*256) m h5 h6,h7]
 push_cast
 rfl
theorem pg (w:World) (R G:Nat) (s:Option (List Int)) (hRG:R≠G) (h:RdS w R G s) :
 Calls Tryz.prog 155 #[.pointer (some ⟨R,0,none⟩),.int .i64 4] w fun e w'=>∃ x:Int,e = .returned (.int .u64 x)∧(0≤x∧x<4294967296)∧Read w R G s nB x w':=by
 have H:=wB h;have HRG:=wB hRG;clear h hRG;go_enter Tryz.func155,Tryz.ntmps155
 go_wp2_with fail
 refine (next_any w R G 4 s HRG.out (by omega) (by omega) H.out).mono ?_;rintro e w2 ⟨hk,hs,he⟩;rcases ji s 4 with ⟨l,rfl,hl,ht⟩ | ht
 · simp only [Option.bind_some,ht,Option.map_some] at hs he
   obtain ⟨b,o,c,rfl,hc1,hc⟩:=he
   obtain ⟨x0,x1,x2,x3,r,rfl⟩:∃ x0 x1 x2 x3 r,l=x0::x1::x2::x3::r:=by
    match l,hl with
    | x0::x1::x2::x3::r,_=>exact ⟨x0,x1,x2,x3,r,rfl⟩
   have hB:=H.out.byt;have h0:=hB x0 (by simp);have h1:=hB x1 (by simp);have h2:=hB x2 (by simp);have h3:=hB x3 (by simp);clear hB;have HE:=wB (show Read w R G (some (x0::x1::x2::x3::r)) nB (beI [x0,x1,x2,x3]) w2 from ⟨some r,hs,Step.some (by simp [nB,dT,ht]),hk⟩);have c0:w2.cell? ⟨b,o,none⟩=some (.int .u8 x0):=hc 0 _ rfl;have c1:w2.cell? ⟨b,o+1,none⟩=some (.int .u8 x1):=hc 1 _ rfl;have c2:w2.cell? ⟨b,o+2,none⟩=some (.int .u8 x2):=hc 2 _ rfl;have c3:w2.cell? ⟨b,o+3,none⟩=some (.int .u8 x3):=hc 3 _ rfl;clear hk hs hc ht hl;go_wp2_with fail
   go_loopw [5,20] (fun u i wr=>Hid (∃ (a:Int) (j:Nat),j≤4∧u = .int .u64 a∧i = .int .i64 j∧(0≤a∧a<256 ^ j)∧a=beI ([x0,x1,x2,x3].take j)∧wr=w2)) (fun _ i _=>4 - (intOf i).toNat)
   case atStart=>exact wB ⟨0,0,by omega,rfl,rfl,⟨by omega,by omega⟩,rfl,rfl⟩
   case round=>
    obtain ⟨a,j,hj,rfl,rfl,ha,hab,rfl⟩:=hrel.out;clear hrel;have HA:=wB hab;clear hab;obtain rfl | rfl | rfl | rfl | rfl:j=0∨j=1∨j=2∨j=3∨j=4:=by omega
    · have hb:=kQ ha.1 (by omega:a<72057594037927936) h0.1 h0.2
      have HA2:=wB (show a*256+x0=beI [x0] from by rw [HA.out];rfl);clear HA;go_wp2_with fail
      go_roundw
      case rel=>exact wB ⟨a*256+x0,1,by omega,by first | rfl | rw [hb],by go_num,⟨by omega,by omega⟩,HA2.out,by first | rfl | trivial⟩
      case measure=>simp [intOf]
    · have hb:=kQ ha.1 (by omega:a<72057594037927936) h1.1 h1.2
      have HA2:=wB (show a*256+x1=beI [x0,x1] from by rw [HA.out];rfl);clear HA;go_wp2_with fail
      go_roundw
      case rel=>exact wB ⟨a*256+x1,2,by omega,by first | rfl | rw [hb],by go_num,⟨by omega,by omega⟩,HA2.out,by first | rfl | trivial⟩
      case measure=>simp [intOf]
    · have hb:=kQ ha.1 (by omega:a<72057594037927936) h2.1 h2.2
      have HA2:=wB (show a*256+x2=beI [x0,x1,x2] from by rw [HA.out];rfl);clear HA;go_wp2_with fail
      go_roundw
      case rel=>exact wB ⟨a*256+x2,3,by omega,by first | rfl | rw [hb],by go_num,⟨by omega,by omega⟩,HA2.out,by first | rfl | trivial⟩
      case measure=>simp [intOf]
    · have hb:=kQ ha.1 (by omega:a<72057594037927936) h3.1 h3.2
      have HA2:=wB (show a*256+x3=beI [x0,x1,x2,x3] from by rw [HA.out];rfl);clear HA;go_wp2_with fail
      go_roundw
      case rel=>exact wB ⟨a*256+x3,4,by omega,by first | rfl | rw [hb],by go_num,⟨by omega,by omega⟩,HA2.out,by first | rfl | trivial⟩
      case measure=>simp [intOf]
    · have HX:=wB (show a=beI [x0,x1,x2,x3] from HA.out)
      have HAB:=wB (show 0≤a∧a<4294967296 from ⟨ha.1,by have:=ha.2;omega⟩);clear HA ha;go_wp2_with fail
      go_ret
      exact ⟨a,rfl,HAB.out,by rw [HX.out];exact HE.out⟩
 · rw [ht] at hs he
   simp only at he;subst he
   have HE:=wB (show Read w R G s nB 0 w2 from ⟨none,hs,by
    cases s with
    | none=>exact Step.none _ _
    | some l=>
      refine Step.fail ?_ _;simp only [Option.bind_some] at ht;simp [nB,dT,ht],hk⟩)
   clear hk hs;go_wp2_with fail
   go_loopw [5,20] (fun u i wr=>Hid (u = .int .u64 0∧i = .int .i64 0∧wr=w2)) (fun _ i _=>4 - (intOf i).toNat)
   case atStart=>exact wB ⟨rfl,rfl,rfl⟩
   case round=>
    obtain ⟨rfl,rfl,rfl⟩:=hrel.out;clear hrel;go_wp2_with fail
    go_ret
    exact ⟨0,rfl,⟨by omega,by omega⟩,HE.out⟩
end Go.Proofs.YtcaicgipibcicaaGreat
