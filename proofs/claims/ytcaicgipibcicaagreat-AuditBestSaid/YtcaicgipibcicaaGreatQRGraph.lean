/- Chapter 16 in the reference: the graph of requests and drivers. -/
import Derived.Test.YtcaicgipibcicaaGreatQGraphE
import Derived.Test.YtcaicgipibcicaaGreatQHeldTail
import Derived.WalkMore
import Derived.Deep.RegionHeld3
namespace Go.Proofs.YtcaicgipibcicaaGreat
set_option maxRecDepth 100000
set_option linter.unusedVariables false
set_option linter.unusedSimpArgs false
open Go.RowKit Go.Sort

theorem pick_keepA {w w' : World} {H : Nat} {a1 a2 a3 : Addr} {a b c : Value} {X : Nat → Prop} (h : w.cell? ⟨H, 2, none⟩ = some (pickC w H) ∧ w.cell? a1 = some a ∧ w.cell? a2 = some b ∧ w.cell? a3 = some c) (hk : Keep X w w') (h1 : ¬ X H) (h2 : ¬ X a1.block) (h3 : ¬ X a2.block) (h4 : ¬ X a3.block) :
    w'.cell? ⟨H, 2, none⟩ = some (pickC w' H) ∧ w'.cell? a1 = some a ∧ w'.cell? a2 = some b ∧ w'.cell? a3 = some c :=
  ⟨pick_of (hk.cell h.1 h1), hk.cell h.2.1 h2, hk.cell h.2.2.1 h3, hk.cell h.2.2.2 h4⟩
theorem pick_setA {w : World} {H : Nat} {a1 a2 a3 : Addr} {a b c : Value} (h : w.cell? ⟨H, 2, none⟩ = some (pickC w H) ∧ w.cell? a1 = some a ∧ w.cell? a2 = some b ∧ w.cell? a3 = some c) (v : Value) (h2 : a1.block ≠ H) (h3 : a2.block ≠ H) (h4 : a3.block ≠ H) :
    (w.setCell ⟨H, 2, none⟩ v).cell? ⟨H, 2, none⟩ = some (pickC (w.setCell ⟨H, 2, none⟩ v) H) ∧ (w.setCell ⟨H, 2, none⟩ v).cell? a1 = some a ∧ (w.setCell ⟨H, 2, none⟩ v).cell? a2 = some b ∧ (w.setCell ⟨H, 2, none⟩ v).cell? a3 = some c := by
  have hk := Keep.setCell w H 2 v
  refine ⟨?_, hk.cell h.2.1 h2, hk.cell h.2.2.1 h3, hk.cell h.2.2.2 h4⟩
  obtain ⟨v', hv⟩ := cell?_setCell_some (w := w) (p := ⟨H, 2, none⟩) (x := v) (q := ⟨H, 2, none⟩) h.1
  exact pick_of hv
theorem drv_cells_at {w : World} {b o : Nat} {l : List PIdle} (hr : RdC w (some ⟨b, o, none⟩) (cellsOf PIdle.cells l)) {i : Nat} {x : PIdle} (hx : l[i]? = some x) : ∀ j u, x.d.cells[j]? = some u → w.cell? ⟨b, o + i * 14 + j, none⟩ = some u := by
  intro j u hu
  refine rdc_cell PIdle.cells_length hr hx j u ?_
  have he : x.cells = x.d.cells ++ [.int .i64 x.number] := rfl
  rw [he, List.getElem?_append_left (List.getElem?_eq_some_iff.1 hu).1]
  exact hu
theorem conf_cells {w : World} {H : Nat} {c : PConf} (h : w.heap[H]? = some (.cells #[.int .i64 c.q, .int .i64 c.d, .int .i64 c.w, .int .i64 c.ttl, .int .i64 c.b] 23 (0, 0))) : w.cell? ⟨H, 0, none⟩ = some (.int .i64 c.q) ∧ w.cell? ⟨H, 1, none⟩ = some (.int .i64 c.d) ∧ w.cell? ⟨H, 2, none⟩ = some (.int .i64 c.w) ∧ w.cell? ⟨H, 3, none⟩ = some (.int .i64 c.ttl) ∧ w.cell? ⟨H, 4, none⟩ = some (.int .i64 c.b) := by
  refine ⟨?_, ?_, ?_, ?_, ?_⟩ <;> rw [cell_of_row w H _ _ _ (0, 0) h] <;> rfl
/-- The weights so far, appended. -/
def wlsF (c : PConf) (now : Int) (ws : List PWait) (k : Nat) : List Int := (ws.take k).map (fun x => (wtP c now x).1)
theorem wlsF_next {c : PConf} {now : Int} {ws : List PWait} {k : Nat} {x : PWait} (hx : ws[k]? = some x) : wlsF c now ws (k + 1) = wlsF c now ws k ++ [(wtP c now x).1] := take_map_next hx
theorem wlsF_len {c : PConf} {now : Int} {ws : List PWait} {k : Nat} (hk : k ≤ ws.length) : (wlsF c now ws k).length = k := by unfold wlsF; rw [List.length_map, List.length_take]; omega

set_option maxHeartbeats 16000000 in
theorem rgraph_any (w : World) (c : PConf) (now : Int) (ao bo : Option Addr) (n m c' c'' : Nat) (ws : List PWait) (ds : List PIdle) (hnow : i64ok now) (hn : ws.length = n) (hm : ds.length = m) (hw : RdC w ao (cellsOf PWait.cells ws)) (hd : RdC w bo (cellsOf PIdle.cells ds))
    (how : ∀ x ∈ ws, x.Ok) (hod : ∀ x ∈ ds, x.Ok) (hn' : n ≤ 1048576) (hm' : m ≤ 1048576) :
    Calls Tryz.prog 56 #[.agg #[.int .i64 c.q, .int .i64 c.d, .int .i64 c.w, .int .i64 c.ttl, .int .i64 c.b], .int .i64 now, .slice ao n c', .slice bo m c''] w (GraphPost w c now ws ds) := by
  have HN := Lib.hid hn
  have HM := Lib.hid hm
  have HWR := Lib.hid hw
  have HDR := Lib.hid hd
  have HOW := Lib.hid how
  have HOD := Lib.hid hod
  have HNOW := Lib.hid hnow
  clear hn hm hw hd how hod hnow
  have HW := Lib.hid (GhRel.begin w c)
  go_enter Tryz.func56, Tryz.ntmps56
  go_upto_region 1 with fail
  generalize (w.alloc (.cells #[.int .i64 c.q, .int .i64 c.d, .int .i64 c.w, .int .i64 c.ttl, .int .i64 c.b] 23)).alloc (.cells #[.int .i64 0, .int .i64 0, .slice none 0 0] 28) = W at *
  have hH8 : w.heap.size ≤ w.heap.size + 1 := by omega
  have hne8 : w.heap.size < w.heap.size + 1 := by omega
  generalize w.heap.size + 1 = H8 at *
  have HHE := Lib.hid (show ∃ H0, w.heap.size = H0 from ⟨_, rfl⟩)
  obtain ⟨H0, hH0⟩ := HHE.out
  have H8L := Lib.hid hH8
  clear hH8
  rw [hH0] at HW hne8
  rw [hH0]
  have HH := Lib.hid hH0
  clear hH0 HHE
  go_wp2_with (first | ((with_reducible refine wpList_load_elem (o := ⟨some 20, _, _, _, _, _⟩) ?_ 23 (.tmp 4) ?_ H0 (0) ?_ c.cells #[.int .i64 c.q, .int .i64 c.d, .int .i64 c.w, .int .i64 c.ttl, .int .i64 c.b] ?_ _ (conf_whole HW.out.g) Tryz.underlying23 ?_ ?_ ?_); rfl; rfl; rfl; rfl; rfl; exact sz_conf))
  refine (rconfig_any W c).mono ?_
  rintro e w1 ⟨rfl, hb1⟩
  have HW1 := Lib.hid (HW.out.keep hb1)
  clear hb1 HW
  obtain ⟨r0, r1, r2, rf⟩ := cells3 HW1.out.r
  cases hc : configF c with
  | false =>
    have HE := Lib.hid (buildE_1 (now := now) (ws := ws) (ds := ds) hc)
    rw [show configE c = 160 by simp [configE, hc]]
    clear hc
    have HBW := Lib.hid (HW1.out.write H8L.out (.int .i64 0) (.int .i64 0) (.slice none 0 0))
    have HQ := Lib.hid (graph_wrote HW1.out.r (.int .i64 0) (.int .i64 0) (.slice none 0 0))
    go_wp2_with fail
    generalize ((w1.setCell ⟨H8, 0, none⟩ (.int .i64 0)).setCell ⟨H8, 1, none⟩ (.int .i64 0)).setCell ⟨H8, 2, none⟩ (.slice none 0 0) = WF at *
    obtain ⟨q0, q1, q2⟩ := HQ.out
    exact bodyPost_ret (v := .tuple #[.agg #[.int .i64 0, .int .i64 0, .slice none 0 0], .int .i64 160]) (by simp [results, Tryz.results56, go_sem, q0, q1, q2]) rfl (GraphPost.no HE.out (by omega) HBW.out)
  | true =>
    have HC := Lib.hid hc
    rw [show configE c = 0 by simp [configE, hc]]
    clear hc
    go_wp2_with fail
    refine (rtick_any w1 now).mono ?_
    rintro e w2 ⟨rfl, rfl⟩
    cases ht : tickF now with
    | false =>
      have HE := Lib.hid (buildE_2 (ws := ws) (ds := ds) HC.out ht)
      clear ht
      have HBW := Lib.hid (HW1.out.write H8L.out (.int .i64 0) (.int .i64 0) (.slice none 0 0))
      have HQ := Lib.hid (graph_wrote HW1.out.r (.int .i64 0) (.int .i64 0) (.slice none 0 0))
      go_wp2_with fail
      generalize ((w1.setCell ⟨H8, 0, none⟩ (.int .i64 0)).setCell ⟨H8, 1, none⟩ (.int .i64 0)).setCell ⟨H8, 2, none⟩ (.slice none 0 0) = WF at *
      obtain ⟨q0, q1, q2⟩ := HQ.out
      exact bodyPost_ret (v := .tuple #[.agg #[.int .i64 0, .int .i64 0, .slice none 0 0], .int .i64 1]) (by simp [results, Tryz.results56, go_sem, q0, q1, q2]) rfl (GraphPost.no HE.out (by omega) HBW.out)
    | true =>
      have HT := Lib.hid ht
      clear ht
      have hsz : (64 < n ∨ (n ≤ 64 ∧ 64 < m)) ∨ (n ≤ 64 ∧ m ≤ 64) := by omega
      rcases hsz with h | ⟨h1, h2⟩
      · have HE := Lib.hid (buildE_3 (ws := ws) (ds := ds) HC.out HT.out (by rw [HN.out, HM.out]; omega))
        rcases h with h1 | ⟨h1, h2⟩
        · have d1 : decide (64 < n) = true := decide_eq_true h1
          have HBW := Lib.hid (HW1.out.write H8L.out (.int .i64 0) (.int .i64 0) (.slice none 0 0))
          have HQ := Lib.hid (graph_wrote HW1.out.r (.int .i64 0) (.int .i64 0) (.slice none 0 0))
          go_wp2_with fail
          generalize ((w1.setCell ⟨H8, 0, none⟩ (.int .i64 0)).setCell ⟨H8, 1, none⟩ (.int .i64 0)).setCell ⟨H8, 2, none⟩ (.slice none 0 0) = WF at *
          obtain ⟨q0, q1, q2⟩ := HQ.out
          exact bodyPost_ret (v := .tuple #[.agg #[.int .i64 0, .int .i64 0, .slice none 0 0], .int .i64 3]) (by simp [results, Tryz.results56, go_sem, q0, q1, q2]) rfl (GraphPost.no HE.out (by omega) HBW.out)
        · have d1 : decide (64 < n) = false := decide_eq_false (by omega)
          have d2 : decide (64 < m) = true := decide_eq_true h2
          have HBW := Lib.hid (HW1.out.write H8L.out (.int .i64 0) (.int .i64 0) (.slice none 0 0))
          have HQ := Lib.hid (graph_wrote HW1.out.r (.int .i64 0) (.int .i64 0) (.slice none 0 0))
          go_wp2_with fail
          generalize ((w1.setCell ⟨H8, 0, none⟩ (.int .i64 0)).setCell ⟨H8, 1, none⟩ (.int .i64 0)).setCell ⟨H8, 2, none⟩ (.slice none 0 0) = WF at *
          obtain ⟨q0, q1, q2⟩ := HQ.out
          exact bodyPost_ret (v := .tuple #[.agg #[.int .i64 0, .int .i64 0, .slice none 0 0], .int .i64 3]) (by simp [results, Tryz.results56, go_sem, q0, q1, q2]) rfl (GraphPost.no HE.out (by omega) HBW.out)
      have HSZ := Lib.hid (show ¬ (64 < ws.length ∨ 64 < ds.length) by rw [HN.out, HM.out]; omega)
      have d1 : decide (64 < n) = false := decide_eq_false (by omega)
      have d2 : decide (64 < m) = false := decide_eq_false (by omega)
      obtain ⟨i6, hi6, hz60, hz61, hz62⟩ := infos info_int
      have HGI := Lib.hid (show Grown w1 icell 1 (wlsF c now ws 0) (.slice none 0 0) w1 from Grown.begin _ _ _)
      go_wp2_with fail
      clear r0 r1 r2 rf
      go_loopw [11, 12] (fun a i wr => Hid (∃ k : Nat, i = .int .i64 k ∧ k ≤ n ∧ (∀ (j : Nat) (y : PWait), j < k → ws[j]? = some y → (wtP c now y).2 = 0) ∧ GhRel w c H0 H8 wr ∧ Grown w1 icell 1 (wlsF c now ws k) a wr)) (fun _ i _ => n - (intOf i).toNat)
      case atStart => exact Lib.hid ⟨0, rfl, Nat.zero_le _, fun j y h => absurd h (Nat.not_lt_zero j), HW1.out, HGI.out⟩
      case round =>
        obtain ⟨k, rfl, hk, hall, hgh, hgr⟩ := hrel.out
        clear hrel
        have HALL := Lib.hid hall
        have HR1 := Lib.hid hgh
        have HGR := Lib.hid hgr
        clear hall hgh hgr
        by_cases hlt : k < n
        · obtain ⟨x, hx⟩ : ∃ x, ws[k]? = some x := ⟨ws[k]'(by rw [HN.out]; exact hlt), List.getElem?_eq_getElem _⟩
          obtain ⟨b, o, rfl, _⟩ := HWR.out.place (by rw [cellsOf_length _ 18 PWait.cells_length, HN.out]; omega)
          obtain ⟨k0, k1, k2, k3, k4, k5, k6, k7, k8, k9, k10, k11, k12, k13, k14, k15, k16, k17⟩ := wait_re (HWR.out.below HR1.out.below) hx
          obtain ⟨g0, g1, g2, g3, g4⟩ := conf_cells HR1.out.g
          have f0 := cell_regrown g0
          have f1 := cell_regrown g1
          have f2 := cell_regrown g2
          have f3 := cell_regrown g3
          have f4 := cell_regrown g4
          have HX := Lib.hid hx
          have HXO := Lib.hid (HOW.out x (List.mem_of_getElem? hx))
          have HWN := Lib.hid (wlsF_next (c := c) (now := now) hx)
          have HWL := Lib.hid (wlsF_len (c := c) (now := now) (ws := ws) (k := k) (by rw [HN.out]; exact hk))
          clear hx g0 g1 g2 g3 g4
          obtain ⟨A, E, hAE⟩ : ∃ A E, wtP c now x = (A, E) := ⟨_, _, rfl⟩
          have cQ : ∀ dd os, Calls Tryz.prog 99 #[.agg #[.int .i64 c.q, .int .i64 c.d, .int .i64 c.w, .int .i64 c.ttl, .int .i64 c.b], .int .i64 now, .agg #[.int .u8 x.r.i0, .int .u8 x.r.i1, .int .u8 x.r.i2, .int .u8 x.r.i3, .int .u8 x.r.i4, .int .u8 x.r.i5, .int .u8 x.r.i6, .int .u8 x.r.i7, .int .i16 x.r.fx, .int .i16 x.r.fy, .int .i16 x.r.tx, .int .i16 x.r.ty, .int .u8 x.r.seats, .int .u8 x.r.classes, .int .i64 x.r.base, .int .i64 x.r.ttl, .int .i64 x.since, .int .i64 x.number]] (grow (redrawn wr dd) os) fun e w'' => e = .returned (.tuple #[.int .i64 A, .int .i64 E]) ∧ ∃ p : Regrown, w'' = grow (redrawn wr p.d) p.os := fun dd os => Calls.regrown_of (by have := rweight_p (grow (redrawn wr dd) os) c now x HXO.out HNOW.out; rw [hAE] at this; exact this)
          have HAE := Lib.hid hAE
          clear hAE
          go_wp2_with fail
          refine wp_region_quiet_below (by kernel_rfl) (by kernel_rfl) ?_
          repeat (go_big_quiet_step (exact cQ _ _))
          refine wpQuiet_nil ?_
          intro _ hw'
          obtain ⟨⟨dq, osq⟩, hw''⟩ := hw'
          subst hw''
          have HBX := Lib.hid (below_regrown wr dq osq)
          have HR4 := Lib.hid (HR1.out.keep HBX.out)
          have HG4 := Lib.hid (HGR.out.next HBX.out)
          clear cQ k0 k1 k2 k3 k4 k5 k6 k7 k8 k9 k10 k11 k12 k13 k14 k15 k16 k17 f0 f1 f2 f3 f4 HR1 HGR HXO
          generalize grow (redrawn wr dq) osq = W4 at *
          by_cases h0 : E = 0
          · have HA := Lib.hid (show ∀ (j : Nat) (y : PWait), j < k + 1 → ws[j]? = some y → (wtP c now y).2 = 0 from fun j y hj hy => by
              rcases Nat.lt_succ_iff_lt_or_eq.1 hj with hj | rfl
              · exact HALL.out j y hj hy
              · rw [HX.out] at hy; cases hy; rw [HAE.out]; exact h0)
            have e1 : (E == 0) = true := by simp [h0]
            have e2 : (E != 0) = false := by simp [h0]
            clear h0
            go_wp2_with (at_builtin; refine wpList_append_two rfl (.tmp 59) (.tmp 61) 30 30 rfl 3 i6 (.int .i64 0) 1 8 Tryz.underlying30 hi6 hz60 hz61 hz62 rfl u11 (wlsF c now ws k).length _ rfl (HG4.out.own.keep (Keep.alloc (fun _ => False) _ _) (fun _ _ => id)) (.slice (some ⟨W4.heap.size, 0, none⟩) 1 1) 1 (icell A) rfl (Src.lit Tryz.underlying30 1 _ rfl (icell_one _) _ _ rfl) (by omega) (by rw [HWL.out]; unfold maxLen; omega) (by rw [HWL.out]; omega) ?_)
            intro g cap w5 ho5 hc5
            have hrel2 := Lib.hid (show Grown w1 icell 1 (wlsF c now ws (k + 1)) (.slice (some ⟨g, 0, none⟩) ((wlsF c now ws k).length + 1) cap) w5 from by
              rw [HWN.out, HAE.out]
              exact HG4.out.app (Keep.alloc (fun _ => False) _ _) ho5 hc5)
            have HR5 := Lib.hid (show GhRel w c H0 H8 w5 from by
              have hA := HR4.out.one (.cells #[.int .i64 A] 3)
              rcases hc5 with ⟨hv, hk5⟩ | ⟨_, hk5⟩
              · exact hA.keepX hk5 (fun he => by have := HG4.out.new _ he; have := lt_of_block HW1.out.g; omega) (fun he => by have := HG4.out.new _ he; have := lt_of_block HW1.out.r; omega) (fun i hi he => by have := HG4.out.new _ he; have := HW1.out.below.size; omega)
              · exact hA.keepX hk5 id id (fun i hi he => he))
            clear ho5 hc5
            generalize (wlsF c now ws k).length = N at *
            go_wp2_with fail
            go_roundw
            case rel => exact Lib.hid ⟨k + 1, by go_num, by omega, HA.out, HR5.out, hrel2.out⟩
            case measure => simp [intOf]; omega
          · have HE := Lib.hid (show buildE c now ws ds = E by
              have h1 := weighE_at HX.out (by rw [HAE.out]; exact h0) HALL.out
              rw [HAE.out] at h1
              rw [buildE_4 HC.out HT.out HSZ.out (by rw [h1]; exact h0), h1])
            have HE0 := Lib.hid h0
            have e1 : (E == 0) = false := by simp [h0]
            have e2 : (E != 0) = true := by simp [h0]
            clear h0
            obtain ⟨r0, r1, r2, rf⟩ := cells3 HR4.out.r
            have HBW := Lib.hid (HR4.out.write H8L.out (.int .i64 0) (.int .i64 0) (.slice none 0 0))
            have HQ := Lib.hid (graph_wrote HR4.out.r (.int .i64 0) (.int .i64 0) (.slice none 0 0))
            go_wp2_with fail
            generalize ((W4.setCell ⟨H8, 0, none⟩ (.int .i64 0)).setCell ⟨H8, 1, none⟩ (.int .i64 0)).setCell ⟨H8, 2, none⟩ (.slice none 0 0) = WF at *
            obtain ⟨q0, q1, q2⟩ := HQ.out
            exact bodyPost_ret (v := .tuple #[.agg #[.int .i64 0, .int .i64 0, .slice none 0 0], .int .i64 E]) (by simp [results, Tryz.results56, go_sem, q0, q1, q2]) rfl (GraphPost.no HE.out HE0.out HBW.out)
        · obtain rfl : n = k := by omega
          have HWE := Lib.hid (weighE_zero (c := c) (now := now) (l := ws) (fun j y hy => HALL.out j y (by rw [← HN.out]; exact (List.getElem?_eq_some_iff.1 hy).1) hy))
          have HBE := Lib.hid (buildE_5 (ds := ds) HC.out HT.out HSZ.out HWE.out)
          obtain ⟨wo, wcap, rfl, hwrd⟩ := HGR.out.shape
          have HWL := Lib.hid (wlsF_len (c := c) (now := now) (ws := ws) (k := n) (by rw [HN.out]; exact Nat.le_refl _))
          have HWB := Lib.hid (show ∀ b o, wo = some ⟨b, o, none⟩ → o = 0 ∧ w1.heap.size ≤ b from fun b o h => by
            subst h
            rcases HGR.out.own.2 with ⟨h, _⟩ | ⟨g, cap, h, _⟩
            · cases h
            · cases h; exact ⟨rfl, HGR.out.new _ rfl⟩)
          have HWD := Lib.hid hwrd
          rw [HWL.out]
          clear HALL hlt hk hwrd HGR
          as_aux_lemma =>
            go_wp2_with fail
            go_loopw [15] (fun i wr => Hid (∃ k : Nat, i = .int .i64 k ∧ k ≤ m ∧ (∀ (j : Nat) (y : PIdle), j < k → ds[j]? = some y → driverE y.d = 0) ∧ GhRel w c H0 H8 wr ∧ RdC wr wo (cellsOf icell (wlsF c now ws n)))) (fun i _ => m - (intOf i).toNat)
            case atStart => exact Lib.hid ⟨0, rfl, Nat.zero_le _, fun j y h => absurd h (Nat.not_lt_zero j), HR1.out, HWD.out⟩
            case round =>
              clear HWD
              obtain ⟨k, rfl, hk, hall, hgh, hrow⟩ := hrel.out
              clear hrel
              have HALL := Lib.hid hall
              have HR1 := Lib.hid hgh
              have HWD := Lib.hid hrow
              clear hall hgh hrow
              by_cases hlt : k < m
              · obtain ⟨x, hx⟩ : ∃ x, ds[k]? = some x := ⟨ds[k]'(by rw [HM.out]; exact hlt), List.getElem?_eq_getElem _⟩
                obtain ⟨b, o, rfl, _⟩ := HDR.out.place (by rw [cellsOf_length _ 14 PIdle.cells_length, HM.out]; omega)
                have HCE := Lib.hid (drv_cells_at (HDR.out.below HR1.out.below) hx)
                have HX := Lib.hid hx
                have HXO := Lib.hid (HOD.out x (List.mem_of_getElem? hx))
                clear hx
                go_wp2_with (first | ((with_reducible refine wpList_load_elem (o := ⟨some 73, _, _, _, _, _⟩) ?_ 81 (.tmp 72) ?_ b (o + k * 14) ?_ x.d.cells #[.int .u8 x.d.i0, .int .u8 x.d.i1, .int .u8 x.d.i2, .int .u8 x.d.i3, .int .u8 x.d.i4, .int .u8 x.d.i5, .int .u8 x.d.i6, .int .u8 x.d.i7, .int .i16 x.d.ax, .int .i16 x.d.ay, .int .u8 x.d.seats, .int .u8 x.d.cls, .int .i64 x.d.radius] ?_ _ HCE.out Tryz.underlying81 ?_ ?_ ?_); rfl; rfl; rfl; rfl; rfl; exact sz_drv))
                refine (rdriver_any wr x.d HXO.out.d).mono ?_
                rintro e w4 ⟨rfl, hb4⟩
                have HR4 := Lib.hid (HR1.out.keep hb4)
                have HWD4 := Lib.hid (HWD.out.below hb4)
                clear hb4 HR1 HWD HCE HXO
                obtain ⟨E, hE⟩ : ∃ E, driverE x.d = E := ⟨_, rfl⟩
                rw [hE]
                have HEE := Lib.hid hE
                clear hE
                by_cases h0 : E = 0
                · have HA := Lib.hid (show ∀ (j : Nat) (y : PIdle), j < k + 1 → ds[j]? = some y → driverE y.d = 0 from fun j y hj hy => by
                    rcases Nat.lt_succ_iff_lt_or_eq.1 hj with hj | rfl
                    · exact HALL.out j y hj hy
                    · rw [HX.out] at hy; cases hy; rw [HEE.out]; exact h0)
                  have e1 : (E == 0) = true := by simp [h0]
                  have e2 : (E != 0) = false := by simp [h0]
                  clear h0
                  go_wp2_with fail
                  go_roundw
                  case rel => exact Lib.hid ⟨k + 1, by go_num, by omega, HA.out, HR4.out, HWD4.out⟩
                  case measure => simp [intOf]; omega
                · have HE := Lib.hid (show buildE c now ws ds = E by
                    have h1 := driversE_at HX.out (by rw [HEE.out]; exact h0) HALL.out
                    rw [HBE.out, h1, HEE.out])
                  have HE0 := Lib.hid h0
                  have e1 : (E == 0) = false := by simp [h0]
                  have e2 : (E != 0) = true := by simp [h0]
                  clear h0
                  obtain ⟨r0, r1, r2, rf⟩ := cells3 HR4.out.r
                  have HBW := Lib.hid (HR4.out.write H8L.out (.int .i64 0) (.int .i64 0) (.slice none 0 0))
                  have HQ := Lib.hid (graph_wrote HR4.out.r (.int .i64 0) (.int .i64 0) (.slice none 0 0))
                  go_wp2_with fail
                  generalize ((w4.setCell ⟨H8, 0, none⟩ (.int .i64 0)).setCell ⟨H8, 1, none⟩ (.int .i64 0)).setCell ⟨H8, 2, none⟩ (.slice none 0 0) = WF at *
                  obtain ⟨q0, q1, q2⟩ := HQ.out
                  exact bodyPost_ret (v := .tuple #[.agg #[.int .i64 0, .int .i64 0, .slice none 0 0], .int .i64 E]) (by simp [results, Tryz.results56, go_sem, q0, q1, q2]) rfl (GraphPost.no HE.out HE0.out HBW.out)
              · obtain rfl : m = k := by omega
                have HE := Lib.hid (show buildE c now ws ds = 0 by rw [HBE.out]; exact driversE_zero (fun j y hy => HALL.out j y (by rw [← HM.out]; exact (List.getElem?_eq_some_iff.1 hy).1) hy))
                clear HALL hlt hk HBE
                as_aux_lemma =>
                  have HR9 := Lib.hid (HR1.out.one (.cells #[.int .i64 n, .int .i64 m, .slice none 0 0] 28))
                  have HWD9 := Lib.hid (HWD.out.below ((Below.refl wr.heap.size wr).alloc (Nat.le_refl _) (.cells #[.int .i64 n, .int .i64 m, .slice none 0 0] 28)))
                  have HBOX := Lib.hid (heap_alloc_new wr (.cells #[.int .i64 n, .int .i64 m, .slice none 0 0] 28))
                  have HW9 := Lib.hid HR1.out.below.size
                  have HH89 := Lib.hid (lt_of_block HR1.out.r)
                  have HWLT := Lib.hid (show ∀ b o, wo = some ⟨b, o, none⟩ → 0 < n → b < wr.heap.size from fun b o h hn0 => by
                    obtain ⟨b', o', h', hc⟩ := HWD.out.place (by rw [cellsOf_length _ 1 icell_length, HWL.out]; omega)
                    rw [h] at h'
                    cases h'
                    obtain ⟨u, hu⟩ : ∃ u, (cellsOf icell (wlsF c now ws n))[0]? = some u := ⟨_, List.getElem?_eq_getElem (by rw [cellsOf_length _ 1 icell_length, HWL.out]; omega)⟩
                    exact World.block_lt_of_cell? wr _ (hc 0 u hu))
                  go_wp2_with fail
                  generalize wr.alloc (.cells #[.int .i64 n, .int .i64 m, .slice none 0 0] 28) = W9 at *
                  generalize wr.heap.size = H9 at *
                  refine (rpairs_any W9 ao bo n m c' c'' ws ds HN.out HM.out (HWR.out.below HR9.out.below) (HDR.out.below HR9.out.below) HOW.out HOD.out hn' hm').mono ?_
                  rintro e w3 ⟨pv, rfl, hpg⟩
                  obtain ⟨po, pcap, rfl, hprd⟩ := hpg.shape
                  have HR3 := Lib.hid (HR9.out.keep hpg.below)
                  have HWD3 := Lib.hid (HWD9.out.below hpg.below)
                  have HED := Lib.hid (EdRel.begin ((Keep.of_below hpg.below (Nat.le_refl _) (fun _ => False)).old HBOX.out id))
                  have HNB := Lib.hid (show ∀ p ∈ pairsF ws ds, 0 ≤ p.r ∧ p.r < n ∧ 0 ≤ p.c ∧ p.c < m from fun p hp => by have := pairsF_in hp; rw [HN.out, HM.out] at this; exact this)
                  have HPR := Lib.hid hprd
                  have HPB := Lib.hid (show ∀ b o, po = some ⟨b, o, none⟩ → 0 < (pairsF ws ds).length → b ≠ H9 from fun b o h hl he => by
                    rcases hpg.own.2 with ⟨h1, h2⟩ | ⟨g, cap, h1, _⟩
                    · omega
                    · cases h1
                      cases h
                      have h3 : W9.heap.size ≤ b := hpg.new b rfl
                      have := lt_of_block HBOX.out
                      omega)
                  have hlen : (pairsF ws ds).length ≤ 4096 := by
                    have k1 := pairsF_len ws ds
                    have k2 : ws.length * ds.length ≤ 64 * 64 := Nat.mul_le_mul (by rw [HN.out]; exact h1) (by rw [HM.out]; exact h2)
                    omega
                  obtain ⟨q, hq⟩ : ∃ q, (pairsF ws ds).length = q := ⟨_, rfl⟩
                  rw [hq] at hlen HPB ⊢
                  have HQL := Lib.hid hq
                  clear hprd hpg hq HR9 HWD9 HBOX HR1 HWD
                  obtain ⟨i5, hi, hz0, hz1, hz2⟩ := infos info_edge
                  go_wp2_with fail
                  go_loopw [19] (fun i wr => Hid (∃ (k : Nat) (ev : Value), i = .int .i64 k ∧ k ≤ q ∧ EdRel w3 n m (((pairsF ws ds).take k).map (edgeOf c now ws)) ev H9 wr)) (fun i _ => q - (intOf i).toNat)
                  case atStart => exact Lib.hid ⟨0, .slice none 0 0, rfl, Nat.zero_le _, HED.out⟩
                  case round =>
                    obtain ⟨k, ev, rfl, hk, hed⟩ := hrel.out
                    clear hrel
                    have HED1 := Lib.hid hed
                    clear hed
                    by_cases hlt : k < q
                    · obtain ⟨p, hp⟩ : ∃ p, (pairsF ws ds)[k]? = some p := ⟨(pairsF ws ds)[k]'(by rw [HQL.out]; exact hlt), List.getElem?_eq_getElem _⟩
                      obtain ⟨b, o, rfl, _⟩ := HPR.out.place (by rw [cellsOf_length _ 2 PPair.cells_length, HQL.out]; omega)
                      have hbH9 : b ≠ H9 := HPB.out b o rfl (by omega)
                      obtain ⟨y0, y1⟩ := pair_at (HPR.out.keep HED1.out.keep (fun b' o' h => HPB.out b' o' h (by omega))) hp
                      have hb3 : b < w3.heap.size := by obtain ⟨u0, _⟩ := pair_at HPR.out hp; exact World.block_lt_of_cell? w3 _ u0
                      obtain ⟨v1, v2, v3, v4⟩ := HNB.out p (List.mem_of_getElem? hp)
                      obtain ⟨x, hx⟩ : ∃ x, ws[p.r.toNat]? = some x := ⟨ws[p.r.toNat]'(by rw [HN.out]; omega), List.getElem?_eq_getElem _⟩
                      have HEO := Lib.hid (edgeOf_at (c := c) (now := now) hx)
                      obtain ⟨G, o0, rfl, _⟩ := HWD3.out.place (by rw [cellsOf_length _ 1 icell_length, HWL.out]; omega)
                      obtain ⟨rfl, _⟩ := HWB.out G o0 rfl
                      have hGH9 : G < H9 := HWLT.out G 0 rfl (by omega)
                      have hG3 : G < w3.heap.size := by have := HED1.out.lt; omega
                      have y3 := int_at0 (HWD3.out.keep HED1.out.keep (fun b' o' h => by cases h; omega)) (show (wlsF c now ws n)[p.r.toNat]? = some (wtP c now x).1 by
                        unfold wlsF
                        rw [List.take_of_length_le (by rw [HN.out]; exact Nat.le_refl _)]
                        simp [hx])
                      have HNEXT := Lib.hid (take_map_next (f := edgeOf c now ws) hp)
                      obtain ⟨g0, g1, y2, gf⟩ := cells3 HED1.out.box
                      have hLl : (((pairsF ws ds).take k).map (edgeOf c now ws)).length ≤ 4096 := by rw [List.length_map, List.length_take]; omega
                      clear hp hx g0 g1 gf
                      generalize (wtP c now x).1 = wt at *
                      obtain ⟨L, hL⟩ : ∃ L, ((pairsF ws ds).take k).map (edgeOf c now ws) = L := ⟨_, rfl⟩
                      rw [hL] at HED1 HNEXT hLl
                      clear hL
                      go_wp2_with fail
                      have HNO := Lib.hid (show ∀ b, b < w3.heap.size → ¬ ev.ownBlock = some b from fun b hb he => by
                        have k1 := HED1.out.new b he
                        omega)
                      have hneG : G ≠ H9 := by omega
                      have HYS := Lib.hid HED1.out.lt
                      have HPK := Lib.hid (fun (w' : World) (hk : Keep (fun _ => False) wr w') => show w'.cell? ⟨H9, 2, none⟩ = some ev ∧ w'.cell? ⟨b, o + k * 2, none⟩ = some (.int .i64 p.r) ∧ w'.cell? ⟨b, o + k * 2 + 1, none⟩ = some (.int .i64 p.c) ∧ w'.cell? ⟨G, p.r.toNat, none⟩ = some (.int .i64 wt) from ⟨hk.cell y2 id, hk.cell y0 id, hk.cell y1 id, hk.cell y3 id⟩)
                      clear y0 y1 y2 y3
                      refine wp_region_reads 21 (fun w' => w'.cell? ⟨H9, 2, none⟩ = some ev ∧ w'.cell? ⟨b, o + k * 2, none⟩ = some (.int .i64 p.r) ∧ w'.cell? ⟨b, o + k * 2 + 1, none⟩ = some (.int .i64 p.c) ∧ w'.cell? ⟨G, p.r.toNat, none⟩ = some (.int .i64 wt)) (by kernel_rfl) (by kernel_rfl) (fun _ _ _ _ _ h => h) (HPK.out _ (Keep.drew _ _)) ?_
                      simp only [List.take_succ_cons, List.take_zero, List.drop_succ_cons, List.drop_zero]
                      iterate 21 (
                        refine wpReads_cons (v := ?_) (Or.inl ⟨by rfl, ?_⟩) ?_
                        rotate_left
                        · intro w' hSw
                          try dsimp only at hSw
                          go_simp
                          try with_reducible rfl
                        try simp only [Act.put, List.setIfInBounds_toArray, List.set_cons_zero, List.set_cons_succ])
                      refine wpReads_nil ?_
                      refine wpOp_here rfl (fun K hK => ?_)
                      go_simp
                      refine hK _ _ ⟨by first | exact HPK.out _ (Keep.of_below ((Below.refl wr.heap.size wr).alloc (Nat.le_refl _) _) (Nat.le_refl _) _) | exact HPK.out _ (Keep.of_below (((Below.refl wr.heap.size wr).alloc (Nat.le_refl _) _).drew) (Nat.le_refl _) _), ?_⟩
                      clear hK K
                      try simp only [Act.put, List.setIfInBounds_toArray, List.set_cons_zero, List.set_cons_succ]
                      refine wpList_append_slice rfl (.tmp 94) (.tmp 114) 26 26 rfl 114 i5 zeroEdge 3 24 Tryz.underlying26 hi hz0 hz1 hz2 rfl ev L.length (cellsOf PEdge.cells L) (by simp [Act.eval]) (HED1.out.own.keep (Keep.of_below (((Below.refl wr.heap.size wr).alloc (Nat.le_refl _) _).drew) (Nat.le_refl _) (fun _ => False)) (fun _ _ => id)) (.slice (some ⟨wr.heap.size, 0, none⟩) 1 1) 1 (PEdge.cells ⟨p.r, p.c, wt⟩) (by simp [Act.eval]) (Src.litDrew Tryz.underlying26 3 _ rfl (PEdge.cells_one _) _ _ (by first | rfl | simp [PEdge.cells])) (by unfold maxLen; omega) (by omega) ?_
                      intro ao2 q2 w5 ho2 hk2 hb2
                      have HO2 := Lib.hid ho2
                      have HS2 := Lib.hid hb2
                      have HK2 := Lib.hid hk2
                      have HKY := Lib.hid (Keep.of_below (((Below.refl wr.heap.size wr).alloc (Nat.le_refl _) (.cells #[.int .i64 p.r, .int .i64 p.c, .int .i64 wt] 114)).drew) (Nat.le_refl _) (fun _ => False))
                      clear ho2 hk2 hb2
                      have HB5 := Lib.hid (HK2.out.old (HKY.out.old HED1.out.box id) (HNO.out _ HYS.out))
                      obtain ⟨zz0, zz1, zz2, zf⟩ := cells3 HB5.out
                      clear HPK
                      have HN5 := Lib.hid (HED1.out.next (x := ⟨p.r, p.c, wt⟩) HKY.out HO2.out HK2.out HS2.out)
                      rw [← HEO.out, ← HNEXT.out] at HN5
                      go_wp2_with fail
                      go_roundw
                      case rel => exact Lib.hid ⟨k + 1, _, by go_num, by omega, HN5.out⟩
                      case measure => simp [intOf]; omega
                    · obtain rfl : q = k := by omega
                      have HEF := Lib.hid (show (((pairsF ws ds).take q).map (edgeOf c now ws)) = edgesF c now ws ds by rw [List.take_of_length_le (by rw [HQL.out]; exact Nat.le_refl _)]; rfl)
                      rw [HEF.out] at HED1
                      obtain ⟨ea, ec, rfl⟩ := HED1.out.own.sl
                      obtain ⟨g0, g1, g2, gf⟩ := cells3 HED1.out.box
                      have hb8 : wr.heap[H8]? = some (.cells #[.int .i64 0, .int .i64 0, .slice none 0 0] 28 (0, 0)) := HED1.out.keep.old HR3.out.r (by have := HH89.out; omega)
                      obtain ⟨r0, r1, r2, rf⟩ := cells3 hb8
                      have HGW := Lib.hid ((HED1.out.grown HR3.out.below HW9.out).write H8L.out (fun g hg he => by have := HED1.out.new g hg; have := HR3.out.r; have := lt_of_block this; omega) (.int .i64 n) (.int .i64 m) (.slice ea (edgesF c now ws ds).length ec))
                      have HQ := Lib.hid (graph_wrote hb8 (.int .i64 n) (.int .i64 m) (.slice ea (edgesF c now ws ds).length ec))
                      clear hb8
                      go_wp2_with fail
                      generalize ((wr.setCell ⟨H8, 0, none⟩ (.int .i64 n)).setCell ⟨H8, 1, none⟩ (.int .i64 m)).setCell ⟨H8, 2, none⟩ (.slice ea (edgesF c now ws ds).length ec) = WF at *
                      obtain ⟨q0, q1, q2⟩ := HQ.out
                      exact bodyPost_ret (v := .tuple #[.agg #[.int .i64 n, .int .i64 m, .slice ea (edgesF c now ws ds).length ec], .int .i64 0]) (by simp [results, Tryz.results56, go_sem, q0, q1, q2]) rfl (GraphPost.yes HE.out HN.out HM.out HGW.out)
end Go.Proofs.YtcaicgipibcicaaGreat
