/- The codec's Reader: bytes, numbers. -/
import Derived.Test.YtcaicgipibcicaaGreatQRdM
import Derived.Lib.BufferMore
import Derived.Laws.Bits64b
set_option maxRecDepth 100000
set_option maxHeartbeats 8000000
set_option linter.unusedSimpArgs false
set_option linter.unusedVariables false
open Go renaming bodyPost_ret→xe
open Go.Lib renaming hid→wB
open Option renaming bind_some→wQ
namespace Go.Proofs.YtcaicgipibcicaaGreat
open Go.RowKit Go.Sort
theorem ji (s:Option (List Int)) (k:Nat):(∃ l,s=some l∧k≤l.length∧bK k l=some (l.take k,l.drop k))∨s.bind (bK k)=none:=by
 cases s with
 | none=>exact .inr rfl
 | some l=>
   by_cases h:l.length<k
   · exact .inr (by simp [bK,h])
   · exact .inl ⟨l,rfl,by omega,by simp [bK,h]⟩
def Read {α:Type} (w:World) (R G:Nat) (s:Option (List Int)) (p:aW α) (x:α) (w':World):Prop:=
 ∃ s',RdS w' R G s'∧Step p s s' x∧Keep (fun k=>k=R) w w'
theorem we (w:World) (R G:Nat) (s:Option (List Int)) (hRG:R≠G) (h:RdS w R G s) :
 Calls Tryz.prog 214 #[.pointer (some ⟨R,0,none⟩)] w fun e w'=>∃ x:Int,e = .returned (.int .u8 x)∧bp x∧Read w R G s ff x w':=by
 have H:=wB h;have HRG:=wB hRG;clear h hRG;go_enter Tryz.func214,Tryz.ntmps214
 go_wp2_with fail
 refine (next_any w R G 1 s HRG.out (by omega) (by omega) H.out).mono ?_;rintro e w2 ⟨hk,hs,he⟩;rcases ji s 1 with ⟨l,rfl,hl,ht⟩ | ht
 · simp only [wQ,ht,Option.map_some] at hs he
   obtain ⟨b,o,c,rfl,hc1,hc⟩:=he
   obtain ⟨x,r,rfl⟩:∃ x r,l=x::r:=by
    cases l with
    | nil=>simp at hl
    | cons x r=>exact ⟨x,r,rfl⟩
   · have c0:w2.cell? ⟨b,o,none⟩=some (.int .u8 x):=hc 0 _ rfl
     have HB:=wB (H.out.byt.head);have HE:=wB (show Read w R G (some (x::r)) ff x w2 from ⟨some r,hs,Step.some rfl,hk⟩);clear hk hs hc ht hl;go_wp2_with fail
     go_ret
     exact ⟨x,rfl,HB.out,HE.out⟩
 · rw [ht] at hs he
   simp only at he;subst he
   have HE:=wB (show Read w R G s ff 0 w2 from ⟨none,hs,by
    cases s with
    | none=>exact Step.none _ _
    | some l=>
      refine Step.fail ?_ _;cases l with
      | nil=>rfl
      | cons x l=>simp [bK] at ht,hk⟩)
   clear hk hs;go_wp2_with fail
   go_ret
   exact ⟨0,rfl,by unfold bp;omega,HE.out⟩
theorem qU (w:World) (R:Nat) (ao:Option Addr) (n c:Nat) (f e:Int) (hf:f≠0) (h:fq w R ao n c f) :
 Calls Tryz.prog 181 #[.pointer (some ⟨R,0,none⟩),.int .i64 e] w fun r w'=>r = .returned (.tuple #[])∧w'=w:=by
 obtain ⟨g0,g1,g2,gf⟩:=cells3 h;have b1:(f==0)=false:=by simp [hf]
 clear h;go_enter Tryz.func181,Tryz.ntmps181
 go_wp2_with fail
 exact bodyPost_end (v:=.tuple #[]) (by simp [results,Tryz.results181,go_sem]) rfl ⟨rfl,rfl⟩
theorem wg (w:World) (R G:Nat) (s:Option (List Int)) (e:Int) (he:e≠0) (h:RdS w R G s) :
 Calls Tryz.prog 181 #[.pointer (some ⟨R,0,none⟩),.int .i64 e] w fun r w'=>r = .returned (.tuple #[])∧RdS w' R G none∧Keep (fun k=>k=R) w w':=by
 cases s with
 | none=>
   obtain ⟨f,hf,h1⟩:=h;refine (qU w R none 0 0 f e hf h1).mono ?_;rintro r w' ⟨rfl,rfl⟩;exact ⟨rfl,⟨f,hf,h1⟩,Keep.refl _ _⟩
 | some l=>
   obtain ⟨ao,c,h1,_⟩:=h;refine (lO w R ao l.length c e h1).mono ?_;rintro r w' ⟨rfl,h2,h3⟩;exact ⟨rfl,⟨e,he,h2⟩,h3⟩
theorem mask127:∀ b:Fin 256,bits .and .u8 ((b.val:Nat):Int) 127=((b.val % 128:Nat):Int):=by decide +kernel
theorem wrap_u64 {n:Int} (h1:0≤n) (h2:n<18446744073709551616):IntKind.u64.wrap n=n:=by
 simp [IntKind.wrap,IntKind.signed,IntKind.bits];omega
theorem pow7 (j:Nat):(2:Int) ^ (7*j)=((128 ^ j:Nat):Int):=by
 rw [show (128:Nat) ^ j=2 ^ (7*j) by rw [Nat.pow_mul]]
 norm_cast
theorem lV {n j:Nat} {x:Int} (hn:n<128 ^ j) (hj:j≤9) (x1:0≤x) (x2:x≤255) (h9:j=9→x.toNat % 128≤1) :
 bits .or .u64 (n:Int) (IntKind.u64.wrap (IntKind.u64.wrap (bits .and .u8 x 127)*2 ^ (7*j)))=((n+128 ^ j*(x.toNat % 128):Nat):Int):=by
 obtain ⟨b,rfl⟩:∃ b:Nat,x=b:=⟨x.toNat,by omega⟩;have hm:=mask127 ⟨b,by omega⟩;simp only at hm;have hb:((b:Int).toNat % 128)=b % 128:=by simp
 rw [hb] at h9 ⊢;rw [hm,show IntKind.u64.wrap ((b % 128:Nat):Int)=((b % 128:Nat):Int) from wrap_u64 (by omega) (by omega),pow7]
 have hle:b % 128*128 ^ j<18446744073709551616:=by
  by_cases h:j=9
  · have:=h9 h
    subst h;have hp:(128:Nat) ^ 9=9223372036854775808:=by decide
    rw [hp];omega
  · have h1:128 ^ j≤128 ^ 8:=Nat.pow_le_pow_right (by omega) (by omega)
    have hp:(128:Nat) ^ 8=72057594037927936:=by decide
    have h2:b % 128*128 ^ j≤127*72057594037927936:=Nat.mul_le_mul (by omega) (by omega);omega
 have hn2:n<18446744073709551616:=by
  have h1:128 ^ j≤128 ^ 9:=Nat.pow_le_pow_right (by omega) hj;have hp:(128:Nat) ^ 9=9223372036854775808:=by decide
  omega
 rw [show (((b % 128:Nat):Int)*((128 ^ j:Nat):Int))=((b % 128*128 ^ j:Nat):Int) by norm_cast];rw [wrap_u64 (by omega) (by omega),bits_or_u64_nat _ _ hn2 hle]
 congr 1
 have h128:(128:Nat) ^ j=2 ^ (7*j):=by rw [Nat.pow_mul]
 rw [h128] at hn ⊢;have:=Nat.shiftLeft_add_eq_or_of_lt hn (b % 128);rw [Nat.shiftLeft_eq] at this;rw [Nat.or_comm,←this,Nat.mul_comm (2 ^ (7*j))];omega
def ia (w:World) (R G:Nat) (s:Option (List Int)) (e:Ending) (w':World):Prop:=
 Keep (fun k=>k=R) w w'∧∃ s',RdS w' R G s'∧((∃ n l r,s=some l∧il l=some (n,r)∧s'=some r∧e = .returned (.tuple #[.int .u64 (n:Nat),.int .i64 0]))∨
  (s.bind il=none∧∃ er:Int,er≠0∧e = .returned (.tuple #[.int .u64 0,.int .i64 er])))
theorem sV (w:World) (R G:Nat) (s:Option (List Int)) (hRG:R≠G) (h:RdS w R G s) :
 Calls Tryz.prog 184 #[.func (.func 182) #[.pointer (some ⟨R,0,none⟩)] #[]] w (ia w R G s):=by
 have H:=wB h;have HRG:=wB hRG;clear h hRG;go_enter Tryz.func184,Tryz.ntmps184
 go_wp2_with fail
 go_loopw [4,5] (fun a i wr=>Hid (∃ (n j:Nat) (s':Option (List Int)),a = .int .u64 n∧i = .int .i64 j∧j≤9∧n<128 ^ j∧s.bind il=s'.bind (dI j n)∧(s=none→s'=none)∧RdS wr R G s'∧Keep (fun k=>k=R) w wr)) (fun _ i _=>10 - (intOf i).toNat)
 case atStart=>exact wB ⟨0,0,s,rfl,rfl,by omega,by decide,rfl,id,H.out,Keep.refl _ _⟩
 case round=>
  obtain ⟨n,j,s',rfl,rfl,hj,hn,he,hnn,hs,hk⟩:=hrel.out;clear hrel;have HS:=wB hs;have HK:=wB hk;have HE:=wB he;have HN:=wB hn;clear hs hk he hn;go_wp2_with fail
  refine (next_any wr R G 1 s' HRG.out (by omega) (by omega) HS.out).mono ?_;rintro e w2 ⟨hk2,hs2,he2⟩;have HK2:=wB (HK.out.trans hk2 (fun _ _ h=>h) (fun _ _ h=>h):Keep (fun k=>k=R) w w2);clear hk2;rcases ji s' 1 with ⟨l,rfl,hl,ht⟩ | ht
  · simp only [wQ,ht,Option.map_some] at hs2 he2
    obtain ⟨b,o,c,rfl,hc1,hc⟩:=he2
    obtain ⟨x,r,rfl⟩:∃ x r,l=x::r:=by
     cases l with
     | nil=>simp at hl
     | cons x r=>exact ⟨x,r,rfl⟩
    · have c0:w2.cell? ⟨b,o,none⟩=some (.int .u8 x):=hc 0 _ rfl
      have HS2:=wB hs2;obtain ⟨x1,x2⟩:=HS.out.byt.head;have hnil:∀ W:World,(binOp .eql 59 (.slice (some ⟨b,o,none⟩) 1 c) (.slice none 0 0)).run Tryz.prog W = .ok (.bool false) W:=fun W=>Lib.run_eql_slice_some_nil W _ _ _ Tryz.underlying59
      clear hs2 hc ht hl
      have HBAD:=wB (fun (hb:(j=9∧1<x)∨(0<j∧x=0))=>show ia w R G s (.returned (.tuple #[.int .u64 0,.int .i64 21])) w2 from
       ⟨HK2.out,some r,HS2.out,.inr ⟨by rw [HE.out];simp only [wQ,dI,if_pos hb],21,by decide,rfl⟩⟩)
      have HGOOD:=wB (fun (hb:¬ ((j=9∧1<x)∨(0<j∧x=0)))=>show dI j n (x::r)=if x<128 then some (n+128 ^ j*(x.toNat % 128),r) else dI (j+1) (n+128 ^ j*(x.toNat % 128)) r from by simp only [dI,if_neg hb]);by_cases h9:j=9
      · have c1:(j==9)=true:=by simp [h9]
        have c1':((j:Int)==9)=true:=by simp [h9]
        by_cases h1:1<x
        · have HF:=wB (HBAD.out (.inl ⟨h9,h1⟩))
          have c2:decide (1<x)=true:=decide_eq_true h1;clear h9;go_wp2_with fail
          exact xe (v:=.tuple #[.int .u64 0,.int .i64 21]) (by simp [results,Tryz.results184,go_sem]) rfl HF.out
        · have c2:decide (1<x)=false:=decide_eq_false h1
          have c3:decide (0<j)=true:=decide_eq_true (by omega);have c3':decide ((0:Int)<(j:Int))=true:=decide_eq_true (by omega);by_cases h0:x=0
          · have HF:=wB (HBAD.out (.inr ⟨by omega,h0⟩))
            have c4:(x==0)=true:=by simp [h0]
            clear h9 h0;go_wp2_with fail
            exact xe (v:=.tuple #[.int .u64 0,.int .i64 21]) (by simp [results,Tryz.results184,go_sem]) rfl HF.out
          · have c4:(x==0)=false:=by simp [h0]
            have HV:=wB (HGOOD.out (by omega));have HBITS:=wB (lV HN.out hj x1 x2 (by omega));have hx:x<128:=by omega
            have c5:decide (x<128)=true:=decide_eq_true hx
            have HF:=wB (show ia w R G s (.returned (.tuple #[.int .u64 ((n+128 ^ j*(x.toNat % 128):Nat):Int),.int .i64 0])) w2 from by
             have h1:=HE.out;simp only [wQ] at h1;rw [HV.out,if_pos hx] at h1;cases s with
             | none=>cases h1
             | some l0=>exact ⟨HK2.out,some r,HS2.out,.inl ⟨_,l0,r,rfl,h1,rfl,rfl⟩⟩)
            clear hx h9;go_wp2_with fail
            rw [HBITS.out];exact xe (v:=.tuple #[.int .u64 ((n+128 ^ j*(x.toNat % 128):Nat):Int),.int .i64 0]) (by simp [results,Tryz.results184,go_sem]) rfl HF.out
      · have c1:(j==9)=false:=by simp [h9]
        have c1':((j:Int)==9)=false:=by simp;omega
        by_cases hj0:0<j
        · have c3:decide (0<j)=true:=decide_eq_true hj0
          have c3':decide ((0:Int)<(j:Int))=true:=decide_eq_true (by omega);by_cases h0:x=0
          · have HF:=wB (HBAD.out (.inr ⟨hj0,h0⟩))
            have c4:(x==0)=true:=by simp [h0]
            clear h0;go_wp2_with fail
            exact xe (v:=.tuple #[.int .u64 0,.int .i64 21]) (by simp [results,Tryz.results184,go_sem]) rfl HF.out
          · have c4:(x==0)=false:=by simp [h0]
            have HV:=wB (HGOOD.out (by omega));have HBITS:=wB (lV HN.out hj x1 x2 (by omega));by_cases hx:x<128
            · have c5:decide (x<128)=true:=decide_eq_true hx
              have HF:=wB (show ia w R G s (.returned (.tuple #[.int .u64 ((n+128 ^ j*(x.toNat % 128):Nat):Int),.int .i64 0])) w2 from by
               have h1:=HE.out;simp only [wQ] at h1;rw [HV.out,if_pos hx] at h1;cases s with
               | none=>cases h1
               | some l0=>exact ⟨HK2.out,some r,HS2.out,.inl ⟨_,l0,r,rfl,h1,rfl,rfl⟩⟩)
              clear hx;go_wp2_with fail
              rw [HBITS.out];exact xe (v:=.tuple #[.int .u64 ((n+128 ^ j*(x.toNat % 128):Nat):Int),.int .i64 0]) (by simp [results,Tryz.results184,go_sem]) rfl HF.out
            · have c5:decide (x<128)=false:=decide_eq_false hx
              have HNX:=wB (show s.bind il=(some r).bind (dI (j+1) (n+128 ^ j*(x.toNat % 128)))∧j+1≤9∧n+128 ^ j*(x.toNat % 128)<128 ^ (j+1) from by
               have h1:=HE.out;simp only [wQ] at h1;rw [HV.out,if_neg hx] at h1;refine ⟨h1,by omega,?_⟩;have h2:=HN.out;have h3:128 ^ j*(x.toNat % 128)≤128 ^ j*127:=Nat.mul_le_mul_left _ (by omega);have h4:128 ^ (j+1)=128 ^ j*127+128 ^ j:=by rw [Nat.pow_succ,←Nat.mul_succ]
               omega)
              have HNO:=wB (show s=none→some r=none from fun h=>by have:=hnn h;cases this);clear hx;go_wp2_with fail
              rw [HBITS.out];go_roundw
              case rel=>exact wB ⟨_,j+1,some r,rfl,by go_num,HNX.out.2.1,HNX.out.2.2,HNX.out.1,HNO.out,HS2.out,HK2.out⟩
              case measure=>simp [intOf];omega
        · have c3:decide (0<j)=false:=decide_eq_false hj0
          have c3':decide ((0:Int)<(j:Int))=false:=decide_eq_false (by omega);have HV:=wB (HGOOD.out (by omega));have HBITS:=wB (lV HN.out hj x1 x2 (by omega));by_cases hx:x<128
          · have c5:decide (x<128)=true:=decide_eq_true hx
            have HF:=wB (show ia w R G s (.returned (.tuple #[.int .u64 ((n+128 ^ j*(x.toNat % 128):Nat):Int),.int .i64 0])) w2 from by
             have h1:=HE.out;simp only [wQ] at h1;rw [HV.out,if_pos hx] at h1;cases s with
             | none=>cases h1
             | some l0=>exact ⟨HK2.out,some r,HS2.out,.inl ⟨_,l0,r,rfl,h1,rfl,rfl⟩⟩)
            clear hx;go_wp2_with fail
            rw [HBITS.out];exact xe (v:=.tuple #[.int .u64 ((n+128 ^ j*(x.toNat % 128):Nat):Int),.int .i64 0]) (by simp [results,Tryz.results184,go_sem]) rfl HF.out
          · have c5:decide (x<128)=false:=decide_eq_false hx
            have HNX:=wB (show s.bind il=(some r).bind (dI (j+1) (n+128 ^ j*(x.toNat % 128)))∧j+1≤9∧n+128 ^ j*(x.toNat % 128)<128 ^ (j+1) from by
             have h1:=HE.out;simp only [wQ] at h1;rw [HV.out,if_neg hx] at h1;refine ⟨h1,by omega,?_⟩;have h2:=HN.out;have h3:128 ^ j*(x.toNat % 128)≤128 ^ j*127:=Nat.mul_le_mul_left _ (by omega);have h4:128 ^ (j+1)=128 ^ j*127+128 ^ j:=by rw [Nat.pow_succ,←Nat.mul_succ]
             omega)
            have HNO:=wB (show s=none→some r=none from fun h=>by have:=hnn h;cases this);clear hx;go_wp2_with fail
            rw [HBITS.out];go_roundw
            case rel=>exact wB ⟨_,j+1,some r,rfl,by go_num,HNX.out.2.1,HNX.out.2.2,HNX.out.1,HNO.out,HS2.out,HK2.out⟩
            case measure=>simp [intOf];omega
  · rw [ht] at hs2 he2
    simp only at he2;subst he2
    have HF:=wB (show ia w R G s (.returned (.tuple #[.int .u64 0,.int .i64 20])) w2 from
     ⟨HK2.out,none,hs2,.inr ⟨by
      rw [HE.out];cases s' with
      | none=>rfl
      | some l=>
        cases l with
        | nil=>rfl
        | cons x l=>simp [bK] at ht,20,by decide,rfl⟩⟩)
    have hnil:∀ W:World,(binOp .eql 59 (.slice none 0 0) (.slice none 0 0)).run Tryz.prog W = .ok (.bool true) W:=fun W=>Lib.run_eql_slice_nil_nil W _ _ Tryz.underlying59
    clear hs2 ht;go_wp2_with fail
    exact xe (v:=.tuple #[.int .u64 0,.int .i64 20]) (by simp [results,Tryz.results184,go_sem]) rfl HF.out
theorem uR (w:World) (R G:Nat) (s:Option (List Int)) (hRG:R≠G) (h:RdS w R G s) :
 Calls Tryz.prog 159 #[.pointer (some ⟨R,0,none⟩)] w fun e w'=>∃ n:Nat,e = .returned (.int .u64 n)∧n<18446744073709551616∧Read w R G s il n w':=by
 have H:=wB h;have HRG:=wB hRG;clear h hRG;go_enter Tryz.func159,Tryz.ntmps159
 go_wp2_with fail
 refine (sV w R G s HRG.out H.out).mono ?_;rintro e w2 ⟨hk,s',hs,⟨n,l,r,rfl,hv,rfl,rfl⟩ | ⟨hb,er,her,rfl⟩⟩
 · have HE:=wB (show n<18446744073709551616∧Read w R G (some l) il n w2 from ⟨rJ H.out.byt hv,some r,hs,Step.some hv,hk⟩)
   clear hk hs hv;go_wp2_with fail
   go_ret
   exact ⟨n,rfl,HE.out.1,HE.out.2⟩
 · have HS:=wB hs
   have HK:=wB hk;have HB:=wB hb;have HER:=wB her;have b1:(er != 0)=true:=by simp [her]
   clear hs hk hb her;go_wp2_with fail
   refine (wg w2 R G s' er HER.out HS.out).mono ?_;rintro e w3 ⟨rfl,h3,k3⟩;have HE:=wB (show Read w R G s il 0 w3 from ⟨none,h3,⟨by rw [HB.out];rfl,fun x l h=>by rw [HB.out] at h;cases h⟩,HK.out.trans k3 (fun _ _ h=>h) (fun _ _ h=>h)⟩);clear h3 k3;go_wp2_with fail
   go_ret
   exact ⟨0,rfl,by omega,HE.out⟩
theorem uS (a:Nat) (ha:a<9223372036854775808):bits .xor .i64 (a:Int) (-1)=-(a:Int) - 1:=by
 have h1:(BitVec.ofInt 64 (a:Int)).toNat=a:=by
  rw [BitVec.ofInt_natCast,BitVec.toNat_ofNat];exact Nat.mod_eq_of_lt (by omega)
 show IntKind.i64.wrap ((BitVec.ofInt 64 (a:Int) ^^^ BitVec.ofInt 64 (-1)).toNat:Int)=_
 rw [show BitVec.ofInt 64 (-1)=BitVec.allOnes 64 from by decide,BitVec.xor_allOnes,BitVec.toNat_not,h1,IntKind.wrap_i64];omega
theorem uT (a:Nat) (ha:a<9223372036854775808):bits .xor .i64 (a:Int) 0=(a:Int):=by
 have h1:(BitVec.ofInt 64 (a:Int)).toNat=a:=by
  rw [BitVec.ofInt_natCast,BitVec.toNat_ofNat];exact Nat.mod_eq_of_lt (by omega)
 show IntKind.i64.wrap ((BitVec.ofInt 64 (a:Int) ^^^ BitVec.ofInt 64 0).toNat:Int)=_
 rw [show BitVec.ofInt 64 0=0#64 from by decide,BitVec.xor_zero,h1,IntKind.wrap_i64];omega
theorem uU (n:Nat) (hn:n<18446744073709551616):bits .xor .i64 ((n:Int) / 2) (wrap64 (-wrap64 (bits .and .u64 (n:Int) 1)))=iu n:=by
 have h1:bits .and .u64 (n:Int) 1=((n % 2:Nat):Int):=by
  have:=bits_and_u64_nat n 1 hn (by omega);rw [Nat.and_one_is_mod] at this;exact this
 rw [h1,show ((n:Int) / 2)=((n / 2:Nat):Int) by omega];unfold iu;by_cases h:n % 2=0
 · rw [if_pos h,h]
   have:wrap64 (-wrap64 ((0:Nat):Int))=0:=by decide +kernel
   rw [this];exact uT _ (by omega)
 · have h':n % 2=1:=by omega
   rw [if_neg h,h'];have:wrap64 (-wrap64 ((1:Nat):Int))=-1:=by decide +kernel
   rw [this];exact uS _ (by omega)
theorem int_rd (w:World) (R G:Nat) (s:Option (List Int)) (hRG:R≠G) (h:RdS w R G s) :
 Calls Tryz.prog 216 #[.pointer (some ⟨R,0,none⟩)] w fun e w'=>∃ x:Int,e = .returned (.int .i64 x)∧ar x∧Read w R G s eT x w':=by
 have H:=wB h;have HRG:=wB hRG;clear h hRG;go_enter Tryz.func216,Tryz.ntmps216
 go_wp2_with fail
 refine (uR w R G s HRG.out H.out).mono ?_;rintro e w2 ⟨n,rfl,hn,s',hs,hst,hk⟩;have HE:=wB (show Read w R G s eT (iu n) w2 from ⟨s',hs,hst.map iu eT (fun l=>rfl),hk⟩);have HI:=wB (vc hn);clear hs hst hk;go_wp2_with fail
 rw [uU n hn];go_ret
 exact ⟨iu n,rfl,HI.out,HE.out⟩
def gJ (s:Option (List Int)):Nat:=match s with | some l=>l.length | none=>0
theorem RdS.cells {w:World} {R G:Nat} {s:Option (List Int)} (h:RdS w R G s):∃ ao c f,fq w R ao (gJ s) c f∧gJ s≤1000000000∧(s=none→f≠0)∧(∀ l,s=some l→f=0):=by
 cases s with
 | none=>obtain ⟨f,hf,h1⟩:=h;exact ⟨none,0,f,h1,by simp [gJ],fun _=>hf,fun l hl=>by cases hl⟩
 | some l=>obtain ⟨ao,c,h1,_,_,_,_,h6⟩:=h;exact ⟨ao,c,0,h1,h6,(fun hn=>by cases hn),fun _ _=>rfl⟩
theorem wh (w:World) (R G:Nat) (s:Option (List Int)) (h:RdS w R G s) :
 Calls Tryz.prog 201 #[.pointer (some ⟨R,0,none⟩)] w fun e w'=>e = .returned (.int .i64 (gJ s))∧w'=w:=by
 obtain ⟨ao,c,f,h1,_,_⟩:=h.cells;obtain ⟨g0,g1,g2,gf⟩:=cells3 h1;clear h h1;go_enter Tryz.func201,Tryz.ntmps201
 go_wp2_with fail
 go_ret
 exact ⟨rfl,rfl⟩
def rF (s:Option (List Int)) (e:Int):Prop:=e=0↔s=some []
theorem qV (w:World) (R G:Nat) (s:Option (List Int)) (h:RdS w R G s) :
 Calls Tryz.prog 156 #[.pointer (some ⟨R,0,none⟩)] w fun r w'=>∃ e:Int,r = .returned (.int .i64 e)∧rF s e∧w'=w:=by
 obtain ⟨ao,c,f,h1,hl,hf1,hf2⟩:=h.cells;cases s with
 | none=>
   refine (rC w R ao _ c f h1 (hf1 rfl)).mono ?_;rintro r w' ⟨rfl,rfl⟩;exact ⟨f,rfl,⟨(fun e=>absurd e (hf1 rfl)),(fun e=>by cases e)⟩,rfl⟩
 | some l=>
   obtain rfl:=hf2 l rfl;obtain ⟨g0,g1,g2,gf⟩:=cells3 h1;clear h h1 hf1 hf2;cases l with
   | nil=>
     go_enter Tryz.func156,Tryz.ntmps156
     go_wp2_with fail
     go_ret
     exact ⟨0,rfl,⟨fun _=>rfl,fun _=>rfl⟩,rfl⟩
   | cons x l=>
     have hn:gJ (some (x::l))=l.length+1:=rfl;rw [hn] at g0;have b1:decide ((0:Int)<((l.length+1:Nat):Int))=true:=decide_eq_true (by omega);go_enter Tryz.func156,Tryz.ntmps156
     go_wp2_with fail
     go_ret
     exact ⟨20,rfl,⟨(fun e=>by cases e),(fun e=>by simp at e)⟩,rfl⟩
theorem pu (w:World) (R G:Nat) (s:Option (List Int)) (h:RdS w R G s) :
 Calls Tryz.prog 183 #[.pointer (some ⟨R,0,none⟩)] w fun r w'=>∃ e:Int,r = .returned (.int .i64 e)∧(e=0↔s≠none)∧w'=w:=by
 have H:=wB h;clear h;go_enter Tryz.func183,Tryz.ntmps183
 go_wp2_with fail
 refine (wh w R G s H.out).mono ?_;rintro e w2 ⟨rfl,rfl⟩;by_cases h0:0<gJ s
 · have b1:decide ((0:Int)<((gJ s:Nat):Int))=true:=decide_eq_true (by omega)
   have b1':decide (0<gJ s)=true:=decide_eq_true h0;have HS:=wB (show s≠none from fun e=>by rw [e] at h0;simp [gJ] at h0);clear h0;go_wp2_with fail
   go_ret
   exact ⟨0,rfl,⟨fun _=>HS.out,fun _=>rfl⟩,rfl⟩
 · have b1:decide ((0:Int)<((gJ s:Nat):Int))=false:=decide_eq_false (by omega)
   have b1':decide (0<gJ s)=false:=decide_eq_false h0
   have HS:=wB (show s=none∨s=some [] from by
    cases s with
    | none=>exact .inl rfl
    | some l=>
      cases l with
      | nil=>exact .inr rfl
      | cons x l=>exact absurd (Nat.succ_pos _) h0)
   clear h0;go_wp2_with fail
   refine (qV w2 R G s H.out).mono ?_;rintro e w3 ⟨er,rfl,he,rfl⟩;have HE:=wB he;clear he;go_wp2_with fail
   go_ret
   refine ⟨er,rfl,?_,rfl⟩;rw [show er=0↔s=some [] from HE.out];rcases HS.out with h | h <;> simp [h]
end Go.Proofs.YtcaicgipibcicaaGreat
