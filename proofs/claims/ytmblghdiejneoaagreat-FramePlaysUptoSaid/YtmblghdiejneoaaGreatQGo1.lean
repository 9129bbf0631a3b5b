/- go1: through the bytes that are not decided. -/
import Derived.Test.YtmblghdiejneoaaGreatQGo1F
namespace Go.Proofs.YtmblghdiejneoaaGreat
set_option maxRecDepth 100000
open Go.RowKit

theorem slice_end (ao : Option Addr) (n cap : Nat) (h : n ≤ cap) (hn : n ≤ 100000000000) : ∃ ao' c', ∀ w : World, (Instr.slice 22 (.slice ao n cap) (some (.int .i64 (n : Int))) none none).run Tryz.prog w = .ok (.slice ao' 0 c') w := by
  by_cases hc : cap = n
  · subst hc
    exact ⟨ao, 0, fun w => by go_simp⟩
  · exact ⟨ao.map (·.add n), cap - n, fun w => by go_simp⟩

/-- What going through leaves. -/
def Go1Post (w : World) (D : Nat) (d : DSt) (x : Nat × List Fr × Nat × Nat) (e : Ending) (w' : World) : Prop :=
  ∃ v' r', e = .returned v' ∧ Own w' 4 v' x.2.1.length (fcells x.2.1) ∧ DecAt w' D r' ⟨d.closed, d.fed, x.2.2.1, x.2.2.2, d.rest.drop x.1⟩ ∧ Keep (· = D) w w' ∧
    (∀ g, v'.ownBlock = some g → w.heap.size ≤ g) ∧ (∀ g, r'.ownBlock = some g → w.heap.size ≤ g ∧ v'.ownBlock ≠ some g)

/-- The loop's relation. -/
def Go1Rel (w : World) (D : Nat) (r : Value) (d : DSt) (last : Bool) (v i : Value) (wr : World) : Prop :=
  ∃ (f p : Nat) (out : List Fr) (ba bs : Nat), i = .int .i64 p ∧ p ≤ d.rest.length ∧ d.rest.length - p ≤ f ∧ Own wr 4 v out.length (fcells out) ∧ (∀ g, v.ownBlock = some g → w.heap.size ≤ g) ∧
    wr.heap[D]? = some (.cells #[.bool true, .bool d.closed, .int .i64 d.fed, .int .i64 ba, .int .i64 bs, r] 93 (0, 0)) ∧ Keep (· = D) w wr ∧ (bs = 0 → ba = 0) ∧ bs ≤ d.fed - d.rest.length + p ∧ out.length ≤ 2 * p ∧
    goN last (d.fed - d.rest.length) d.rest f p out ba bs = goN last (d.fed - d.rest.length) d.rest d.rest.length 0 [] d.ba d.bs

/-- Behind the loop: what is not decided moves into new memory. -/
theorem go1_done {w w1 w2 : World} {D n p ba bs g2 c2 : Nat} {r v : Value} {d : DSt} {out : List Fr} {t : TypeId} (hD : D < w.heap.size) (HK1 : Keep (· = D) w w1)
    (HB1 : w1.heap[D]? = some (.cells #[.bool true, .bool d.closed, .int .i64 d.fed, .int .i64 ba, .int .i64 bs, r] 93 (0, 0)))
    (HO1 : Own w1 4 v out.length (fcells out)) (HGE : ∀ g, v.ownBlock = some g → w.heap.size ≤ g) (ho2 : Own w2 1 (.slice (some ⟨g2, 0, none⟩) (n - p) c2) (n - p) (bcells (d.rest.drop p)))
    (hk2 : Keep (fun k => (Value.slice (some ⟨w1.heap.size, 0, none⟩) 0 0).ownBlock = some k) (w1.alloc (.cells #[] t)) w2) (hge2 : w1.heap.size ≤ g2)
    (hn : (d.rest.drop p).length = n - p) :
    Go1Post w D d (p, out, ba, bs) (.returned v) (w2.setCell ⟨D, 5, none⟩ (.slice (some ⟨g2, 0, none⟩) (n - p) c2)) := by
  have hw1 := HK1.size
  have hk12 : Keep (fun _ => False) w1 w2 := (Keep.alloc (fun _ => False) w1 (.cells #[] t)).trans hk2 (fun _ _ h => h.elim) (fun k hk h => by simp [Value.ownBlock] at h; omega)
  have hD2 := hk12.old HB1 id
  have hset := row_set hD2 5 (.slice (some ⟨g2, 0, none⟩) (n - p) c2)
  have hk3 := Keep.setCell w2 D 5 (.slice (some ⟨g2, 0, none⟩) (n - p) c2)
  refine ⟨v, .slice (some ⟨g2, 0, none⟩) (n - p) c2, rfl, (HO1.keep hk12 (fun _ _ => id)).keep hk3 (fun g hg e => by have := HGE g hg; omega), ⟨hset, ?_, ?_⟩, (HK1.trans hk12 (Z := (· = D)) (fun _ _ h => h) (fun _ _ h => h.elim)).trans hk3 (fun _ _ h => h) (fun _ _ h => h), HGE, ?_⟩
  · show Own _ 1 _ (d.rest.drop p).length (bcells (d.rest.drop p))
    rw [hn]
    exact ho2.keep hk3 (fun g hg e => by simp [Value.ownBlock] at hg; omega)
  · simp [Value.ownBlock]; omega
  · intro g hg
    simp [Value.ownBlock] at hg
    subst hg
    refine ⟨by omega, fun h => ?_⟩
    have := HO1.lt _ h
    omega

/-- A round's end. -/
theorem go1_next {w w1 w3 : World} {D : Nat} {r v : Value} {d : DSt} {last : Bool} {f p ba bs : Nat} {out : List Fr} (hp : p ≤ d.rest.length) (hfu : d.rest.length - p ≤ f) (hown : Own w3 4 v out.length (fcells out))
    (hge : ∀ g, v.ownBlock = some g → w.heap.size ≤ g) (hb : w3.heap[D]? = some (.cells #[.bool true, .bool d.closed, .int .i64 d.fed, .int .i64 ba, .int .i64 bs, r] 93 (0, 0))) (hk : Keep (· = D) w w1) (hk3 : Keep (fun k => k = D ∨ w.heap.size ≤ k) w1 w3)
    (hz : bs = 0 → ba = 0) (hbs : bs ≤ d.fed - d.rest.length + p) (hout : out.length ≤ 2 * p)
    (hgo : goN last (d.fed - d.rest.length) d.rest f p out ba bs = goN last (d.fed - d.rest.length) d.rest d.rest.length 0 [] d.ba d.bs) : Go1Rel w D r d last v (.int .i64 (p : Int)) w3 :=
  ⟨f, p, out, ba, bs, rfl, hp, hfu, hown, hge, hb, hk.trans hk3 (fun _ _ h => h) (fun k hk h => by rcases h with h | h; exact h; omega), hz, hbs, hout, hgo⟩

set_option maxRecDepth 100000 in
set_option maxHeartbeats 4000000 in
theorem go1_any (w : World) (D : Nat) (r : Value) (d : DSt) (last : Bool) (h : DecAt w D r d) (hf : d.fed ≤ 4611686018427387903) (hr : d.rest.length ≤ d.fed) (hlen : d.rest.length ≤ 100000000000) (h0 : d.bs = 0 → d.ba = 0) (hbs : d.bs ≤ d.fed - d.rest.length) :
    Calls Tryz.prog 109 #[.pointer (some ⟨D, 0, none⟩), .bool last] w (Go1Post w D d (goN last (d.fed - d.rest.length) d.rest d.rest.length 0 [] d.ba d.bs)) := by
  obtain ⟨c0, c1, c2, c3, c4, c5, hfr⟩ := six_cells h.block
  obtain ⟨ao, cap, he, hl, hrd, hcap, hmax, hob⟩ := h.own.shape
  obtain ⟨i5, hi, hz0, hz1, hz2⟩ := info_parts info_u8
  have hD := h.lt
  have hst := Lib.hid (show ∀ q, Go1Rel w D r d last (.slice none 0 0) (.int .i64 0) (w.drewN q) from fun q => ⟨d.rest.length, 0, [], d.ba, d.bs, rfl, Nat.zero_le _, by omega, Own.nil _ 4, fun _ hg => (nomatch hg), h.block, ⟨rfl, rfl, rfl, Nat.le_refl _, fun _ _ _ => rfl⟩, h0, by omega, by simp, rfl⟩)
  have HH := Lib.hid h
  have HR := Lib.hid hrd
  have HE := Lib.hid he
  have HO := Lib.hid hob
  rw [he] at c5
  generalize hn : d.rest.length = n at *
  generalize hb : d.fed - n = base at *
  have hbase : ((d.fed : Int) - (n : Int)) = (base : Int) := by omega
  have hbb : base ≤ 4611686018427387903 := by omega
  have hbn : base + n = d.fed := by omega
  have HN := Lib.hid hn
  have HBN := Lib.hid hbn
  have HBASE := Lib.hid hb
  clear hn hb hbn h hrd he hob
  go_enter Tryz.func109, Tryz.ntmps109
  go_wp2_with fail
  go_step3
  go_wp2_with fail
  go_quiet (fail)
  go_wp2_with fail
  go_step3
  go_wp2_with fail
  go_loopw [5, 6] (fun v i wr => Hid (Go1Rel w D r d last v i wr)) (fun _ i _ => n - (intOf i).toNat)
  case atStart => exact hst.out _
  case round =>
    obtain ⟨f, p, out, ba, bs, rfl, hp, hfu, hown, hge, hblk, hkeep, hz, hbb2, hout, hgo⟩ := hrel.out
    rw [HN.out] at hp hfu hbb2
    have HG := Lib.hid hgo
    have HOW := Lib.hid hown
    have HGE := Lib.hid hge
    have HK := Lib.hid hkeep
    have HZ := Lib.hid hz
    have HBL := Lib.hid hblk
    obtain ⟨e0, e1, e2, e3, e4, e5, efr⟩ := six_cells hblk
    rw [HE.out] at e5
    clear hgo hown hge hkeep hz hblk hrel c0 c1 c2 c3 c4 c5 hfr
    by_cases hlt : p < n
    · obtain ⟨R, o, rfl, hRw⟩ := HR.out.place (by rw [HN.out]; omega)
      have hRD : R ≠ D := fun e => HH.out.apart (by rw [HO.out R o rfl, e])
      have HRr := Lib.hid (HK.out.rd HR.out (fun b' o' e => by cases e; exact hRD))
      have hrp := Lib.hid (HRr.out.drop p)
      obtain ⟨s, op, hx⟩ : ∃ s op, wholeF (d.rest.drop p) = (s, op) := ⟨_, _, rfl⟩
      have hgood := Lib.hid (wholeF_good (l := d.rest.drop p))
      have hdl : (d.rest.drop p).length = n - p := by rw [List.length_drop, HN.out]
      have HDL := Lib.hid hdl
      have HX := Lib.hid hx
      clear hx hdl
      go_wp2_with fail
      have hc := whole_any (some ⟨R, o + p, none⟩) (n - p) (cap - p) (d.rest.drop p) wr HDL.out hrp.out (by omega)
      rw [HX.out] at hc
      refine hc.mono ?_
      clear hc
      rintro e w1 ⟨rfl, hb1⟩
      have hwr : w.heap.size ≤ wr.heap.size := HK.out.size
      have hk1 := Lib.hid (Keep.of_below hb1 (Nat.le_refl _) (fun _ => False))
      have HB1 := Lib.hid (hk1.out.old HBL.out id)
      have HO1 := Lib.hid (HOW.out.keep hk1.out (fun _ _ => id))
      have HK1 := Lib.hid (HK.out.trans hk1.out (Z := (· = D)) (fun _ _ h => h) (fun _ _ h => h.elim))
      have hw1 : w.heap.size ≤ w1.heap.size := HK1.out.size
      obtain ⟨d0, d1, d2, d3, d4, d5, dfr⟩ := six_cells HB1.out
      rw [HE.out] at d5
      have hrp0 := hrp
      clear e0 e1 e2 e3 e4 e5 efr hb1 HBL HOW HK hrp
      have hD1 : D < w1.heap.size := by omega
      by_cases hstop : op = true ∧ last = false
      · obtain ⟨rfl, rfl⟩ := hstop
        have hrp1 := Lib.hid ((hrp0.out.keep hk1.out id).keep (Keep.alloc (fun _ => False) w1 (.cells #[] 5)) id)
        have hfin := Lib.hid (show goN false (d.fed - d.rest.length) d.rest d.rest.length 0 [] d.ba d.bs = (p, out, ba, bs) by
          rw [← HG.out]
          obtain ⟨f, rfl⟩ : ∃ k, f = k + 1 := ⟨f - 1, by omega⟩
          rw [goN, if_pos (by rw [HN.out]; exact hlt), HX.out, if_pos ⟨rfl, rfl⟩])
        go_wp2_with (at_builtin; refine wpList_append_pos rfl (.tmp 98) (.tmp 104) 22 22 rfl 5 i5 (.int .u8 0) 1 1 Tryz.underlying22 hi hz0 hz1 hz2 rfl (.slice (some ⟨w1.heap.size, 0, none⟩) 0 0) 0 (bcells []) rfl (Own.lit w1 [] _ 0 rfl rfl (by unfold maxLen; omega) _) (.slice (some ⟨R, o + p, none⟩) (n - p) (cap - p)) (n - p) (bcells (d.rest.drop p)) rfl (Src.bytes Tryz.underlying22 _ _ _ (d.rest.drop p) HDL.out hrp1.out) (.inr rfl) (by unfold maxLen; omega) (by omega) ?_)
        intro g2 c2 w2 ho2 hk2 hg2
        rw [show bcells [] = [] from rfl, List.nil_append] at ho2
        have hge2 : w1.heap.size ≤ g2 := own_ge hg2 (Nat.le_refl _) (by omega)
        have hdone := Lib.hid (go1_done hD HK1.out HB1.out HO1.out HGE.out ho2 hk2 hge2 HDL.out)
        have hk12 : Keep (fun _ => False) w1 w2 := (Keep.alloc (fun _ => False) w1 _).trans hk2 (fun _ _ h => h.elim) (fun k hk h => by simp [Value.ownBlock] at h; omega)
        obtain ⟨f0, f1, f2, f3, f4, f5, ffr⟩ := six_cells (hk12.old HB1.out id)
        clear ho2 hk2 hg2 hk12 d0 d1 d2 d3 d4 d5 dfr
        go_wp2
        rw [Exit.noGoto_ret]
        go_ret
        have := hfin.out
        rw [HN.out, HBASE.out] at this
        rw [this]
        exact hdone.out
      · by_cases hs0 : s = 0
        · subst hs0
          have hrel1 : ∀ w3 ba', w3.heap[D]? = some (.cells #[.bool true, .bool d.closed, .int .i64 d.fed, .int .i64 ((ba' : Nat) : Int), .int .i64 ((bs + 1 : Nat) : Int), r] 93 (0, 0)) → Keep (· = D) w1 w3 → ba' = (if bs = 0 then base + p else ba) →
              Go1Rel w D r d last u5 (.int .i64 ((p + 1 : Nat) : Int)) w3 := by
            intro w3 ba' hb3 hk3 hba
            obtain ⟨f, rfl⟩ : ∃ k, f = k + 1 := ⟨f - 1, by omega⟩
            have := HG.out
            rw [goN, if_pos (by rw [HN.out]; exact hlt), HX.out, if_neg hstop, if_pos rfl, HN.out, HBASE.out, ← hba] at this
            exact go1_next (f := f) (by rw [HN.out]; omega) (by rw [HN.out]; omega) (HO1.out.keep hk3 (fun g hg e => by have := HGE.out g hg; have e' : g = D := e; omega)) HGE.out hb3 HK1.out (hk3.mono (fun _ _ h => .inl h)) (fun h => by omega) (by rw [HN.out, HBASE.out]; have := hbb2; omega) (by omega) (by rw [HN.out, HBASE.out]; exact this)
          have HREL := Lib.hid hrel1
          have hop : op = false ∨ (op = true ∧ last = true) := by cases op <;> cases last <;> simp at hstop ⊢
          clear hrel1 hstop
          by_cases hb0 : bs = 0
          · have hba0 := HZ.out hb0
            subst hb0 hba0
            have hs1 := Lib.hid (row_set (row_set HB1.out 3 (.int .i64 ((base + p : Nat) : Int))) 4 (.int .i64 ((0 + 1 : Nat) : Int)))
            have hk3 := Lib.hid (show Keep (fun k => k = D) w1 ((w1.setCell ⟨D, 3, none⟩ (.int .i64 ((base + p : Nat) : Int))).setCell ⟨D, 4, none⟩ (.int .i64 ((0 + 1 : Nat) : Int))) from (Keep.setCell w1 D 3 _).trans (Keep.setCell _ D 4 _) (fun _ _ h => h) (fun _ _ h => h))
            rcases hop with rfl | ⟨rfl, rfl⟩
            all_goals
              go_wp2_with fail
              go_roundw
              case rel => exact HREL.out _ (base + p) hs1.out hk3.out (by simp)
              case measure => simp [intOf]; omega
          · have hb0' : ((bs : Int) == 0) = false := by simp; omega
            have hs1 := Lib.hid (row_set HB1.out 4 (.int .i64 ((bs + 1 : Nat) : Int)))
            have hk3 := Lib.hid (Keep.setCell w1 D 4 (.int .i64 ((bs + 1 : Nat) : Int)))
            rcases hop with rfl | ⟨rfl, rfl⟩
            all_goals
              go_wp2_with fail
              go_roundw
              case rel => exact HREL.out _ ba hs1.out hk3.out (by rw [if_neg hb0])
              case measure => simp [intOf]; omega
        · have hg := hgood.out (by rw [HX.out]; exact hs0)
          rw [HX.out] at hg
          obtain ⟨hsz, hle, hlo, hop, _, _⟩ := hg
          simp only at hsz hop
          subst hop
          rw [HDL.out] at hle
          have hs8 : 8 ≤ s := by omega
          have hps : p + s ≤ n := by omega
          have hsne : ((s : Int) == 0) = false := by simp; omega
          clear hsz hle hlo hstop
          go_wp2_with fail
          refine (tell_any w1 D r u5 ⟨d.closed, d.fed, ba, bs, d.rest⟩ out HB1.out HZ.out HO1.out (fun e => by have := HGE.out D e; omega) (by omega)).mono ?_
          rintro e w2 ⟨v2, rfl, ho2, hb2, hk2, hob2⟩
          have HO2 := Lib.hid ho2
          have hb2' : w2.heap[D]? = some (.cells #[.bool true, .bool d.closed, .int .i64 d.fed, .int .i64 0, .int .i64 0, r] 93 (0, 0)) := hb2
          have HB2 := Lib.hid hb2'
          have HK2 := Lib.hid hk2
          have hge2 : ∀ g, v2.ownBlock = some g → w.heap.size ≤ g := by
            intro g hg
            rcases hob2 with h | ⟨g', h, hle⟩
            · exact HGE.out g (by rw [← h]; exact hg)
            · rw [hg] at h; cases h; omega
          have HGE2 := Lib.hid hge2
          obtain ⟨f0, f1, f2, f3, f4, f5, ffr⟩ := six_cells hb2'
          rw [HE.out] at f5
          have hR2 : Rd w2 (some ⟨R, o, none⟩) d.rest := (HRr.out.keep hk1.out id).keep hk2 (fun e => by
            rcases e with e | e
            · exact hRD e
            · have := HGE.out R e; omega)
          have hcl : ((d.rest.drop (p + 4)).take (s - 8)).length = p + s - 4 - (p + 4) := by
            rw [List.length_take, List.length_drop, HN.out]; omega
          have hcv := conv_str (P := Tryz.prog) w2 22 9 5 Tryz.underlying22 Tryz.underlying5 Tryz.underlying9 (some ⟨R, o + (p + 4), none⟩) (p + s - 4 - (p + 4)) (cap - (p + 4)) _ hcl ((hR2.drop (p + 4)).take (s - 8))
          have htl := tellL_le ba bs out
          have hstep := Lib.hid (show goN last (d.fed - d.rest.length) d.rest (f - 1) (p + s) (tellL ba bs out ++ [⟨1, base + p, s, (d.rest.drop (p + 4)).take (s - 8)⟩]) 0 0 = goN last (d.fed - d.rest.length) d.rest d.rest.length 0 [] d.ba d.bs by
            rw [← HG.out]
            obtain ⟨f, rfl⟩ : ∃ k, f = k + 1 := ⟨f - 1, by omega⟩
            have := HBASE.out
            rw [← HN.out] at this
            rw [goN, if_pos (by rw [HN.out]; exact hlt), HX.out, if_neg (fun h => by cases h.1), if_neg hs0, this]
            rfl)
          generalize hcs : (d.rest.drop (p + 4)).take (s - 8) = cont at *
          have hcells := Lib.hid (show #[Value.int .u8 1, .int .i64 ((base : Int) + (p : Int)), .int .i64 (s : Int), .string ⟨cont.toArray⟩] = (fcell ⟨1, base + p, s, cont⟩).toArray by simp [fcell])
          generalize hfr : (⟨1, base + p, s, cont⟩ : Fr) = fr at *
          generalize htt : tellL ba bs out = tl at *
          generalize hstr : (⟨cont.toArray⟩ : ByteArray) = str at *
          obtain ⟨i33, hj, hy0, hy1, hy2⟩ := info_parts info_frame
          have hw2 : w1.heap.size ≤ w2.heap.size := hk2.size
          clear hb2 hb2' hk2 ho2 hob2 hge2 d0 d1 d2 d3 d4 d5 dfr hR2 hcl hcs hfr htt hstr
          go_wp2_with (at_builtin; refine wpList_append_pos rfl (.tmp 40) (.tmp 59) 24 24 rfl 82 i33 zeroFrame 4 40 Tryz.underlying24 hj hy0 hy1 hy2 rfl v2 tl.length (fcells tl) rfl (HO2.out.keep (Keep.alloc (fun _ => False) _ _) (fun _ _ => id)) (.slice (some ⟨w2.heap.size, 0, none⟩) 1 1) 1 (fcell fr) rfl (Src.frame Tryz.underlying24 _ _ _ hcells.out) (.inl (by omega)) (by unfold maxLen; omega) (by omega) ?_)
          intro g3 c3 w3 ho3 hk3 hg3
          have hv2D : ¬ v2.ownBlock = some D := fun e => by have := HGE2.out D e; omega
          have hk23 : Keep (fun k => v2.ownBlock = some k) w2 w3 := (Keep.alloc (fun _ => False) w2 _).trans hk3 (fun _ _ h => h.elim) (fun _ _ h => h)
          rw [← fcells_one, ← fcells_append] at ho3
          have hl3 : (tl ++ [fr]).length = tl.length + 1 := by simp
          rw [← hl3] at ho3
          have hrel3 := Lib.hid (show Go1Rel w D r d last (.slice (some ⟨g3, 0, none⟩) (tl.length + 1) c3) (.int .i64 ((p + s : Nat) : Int)) w3 from by
            have h3 : Own w3 4 (.slice (some ⟨g3, 0, none⟩) (tl.length + 1) c3) (tl ++ [fr]).length (fcells (tl ++ [fr])) := by rw [← hl3]; exact ho3
            refine go1_next (f := f - 1) (by rw [HN.out]; omega) (by rw [HN.out]; omega) h3 ?_ (hk23.old HB2.out hv2D) HK1.out (HK2.out.trans hk23 (fun k _ h => ?_) (fun k _ h => .inr (HGE2.out k h))) (fun _ => rfl) (Nat.zero_le _) (by rw [hl3]; omega) hstep.out
            · intro g hg
              simp [Value.ownBlock] at hg
              subst hg
              rcases hg3 with h | h
              · exact HGE2.out _ h
              · omega
            · rcases h with h | h
              · exact .inl h
              · exact .inr (HGE.out k h))
          clear ho3 hk3 hg3 hk23 f0 f1 f2 f3 f4 f5 ffr hcv hcells
          go_wp2_with fail
          go_roundw
          case rel => exact hrel3.out
          case measure => simp [intOf]; omega
    · have hpn : p = n := by omega
      have hD1 : D < wr.heap.size := Nat.lt_of_lt_of_le hD HK.out.size
      obtain ⟨ao', c', hsl⟩ := slice_end ao n cap hcap hlen
      have hfin := Lib.hid (show goN last (d.fed - d.rest.length) d.rest d.rest.length 0 [] d.ba d.bs = (n, out, ba, bs) by
        rw [← HG.out]
        cases f with
        | zero => rw [goN, hpn]
        | succ f => rw [goN, if_neg (by rw [HN.out]; exact hlt), hpn])
      subst hpn
      have hw1 : w.heap.size ≤ wr.heap.size := HK.out.size
      have hDL := Lib.hid (show (d.rest.drop p).length = 0 by rw [List.length_drop, HN.out]; omega)
      clear hcap
      go_wp2_with (at_builtin; refine wpList_append_pos rfl (.tmp 98) (.tmp 104) 22 22 rfl 5 i5 (.int .u8 0) 1 1 Tryz.underlying22 hi hz0 hz1 hz2 rfl (.slice (some ⟨wr.heap.size, 0, none⟩) 0 0) 0 (bcells []) rfl (Own.lit wr [] _ 0 rfl rfl (by unfold maxLen; omega) _) (.slice ao' 0 c') 0 (bcells (d.rest.drop p)) rfl (Src.bytes Tryz.underlying22 _ _ _ (d.rest.drop p) hDL.out (.inl (List.eq_nil_of_length_eq_zero hDL.out))) (.inr rfl) (by unfold maxLen; omega) (by omega) ?_)
      intro g2 c2 w2 ho2 hk2 hg2
      rw [show bcells [] = [] from rfl, List.nil_append] at ho2
      have hge2 : wr.heap.size ≤ g2 := own_ge hg2 (Nat.le_refl _) (by omega)
      have hdone := Lib.hid (go1_done (n := p) (p := p) (c2 := c2) hD HK.out HBL.out HOW.out HGE.out (by simpa using ho2) hk2 hge2 (by rw [hDL.out]; omega))
      have hk12 : Keep (fun _ => False) wr w2 := (Keep.alloc (fun _ => False) wr _).trans hk2 (fun _ _ h => h.elim) (fun k hk h => by simp [Value.ownBlock] at h; omega)
      obtain ⟨f0, f1, f2, f3, f4, f5, ffr⟩ := six_cells (hk12.old HBL.out id)
      rw [Nat.sub_self] at hdone
      clear ho2 hk2 hg2 hk12 e0 e1 e2 e3 e4 e5 efr hsl
      go_wp2
      rw [Exit.noGoto_ret]
      go_ret
      have := hfin.out
      rw [HN.out, HBASE.out] at this
      rw [this]
      exact hdone.out
end Go.Proofs.YtmblghdiejneoaaGreat
