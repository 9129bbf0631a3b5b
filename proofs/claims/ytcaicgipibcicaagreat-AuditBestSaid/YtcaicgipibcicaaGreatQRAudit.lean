/- Is a record's graph that of its requests and drivers? audit.graft; and chapter 26's Record. -/
import Derived.Test.YtcaicgipibcicaaGreatQPairs
import Derived.Test.YtcaicgipibcicaaGreatQWGraph
import Derived.Test.YtcaicgipibcicaaGreatQRMatch
namespace Go.Proofs.YtcaicgipibcicaaGreat
set_option maxRecDepth 100000
set_option linter.unusedVariables false
set_option linter.unusedSimpArgs false
open Go.RowKit Go.Sort

/-- audit.graft's answer. -/
def graftN (c : PConf) (x : PRec) : Int := if graftB c x then 0 else 260
theorem graftB_1 {c : PConf} {x : PRec} (h : buildE c x.tick x.ws x.ds ≠ 0) : graftB c x = false := by simp [graftB, h]
theorem graftB_2 {c : PConf} {x : PRec} {n : Nat} (hn : x.ws.length = n) (h : (n : Int) ≠ x.rows) : graftB c x = false := by subst hn; simp [graftB, Ne.symm h]
theorem graftB_3 {c : PConf} {x : PRec} {m : Nat} (hm : x.ds.length = m) (h : (m : Int) ≠ x.cols) : graftB c x = false := by subst hm; simp [graftB, Ne.symm h]
theorem graftB_4 {c : PConf} {x : PRec} (h : sameL (edgesF c x.tick x.ws x.ds) x.es = false) : graftB c x = false := by unfold graftB; rw [show decide (edgesF c x.tick x.ws x.ds = x.es) = false from h]; simp
theorem graftB_5 {c : PConf} {x : PRec} {n m : Nat} (h0 : buildE c x.tick x.ws x.ds = 0) (hn : x.ws.length = n) (hm : x.ds.length = m) (h1 : (n : Int) = x.rows) (h2 : (m : Int) = x.cols) (h : sameL (edgesF c x.tick x.ws x.ds) x.es = true) : graftB c x = true := by
  subst hn
  subst hm
  unfold graftB
  rw [show decide (edgesF c x.tick x.ws x.ds = x.es) = true from h]
  simp [h0, h1, h2]
theorem graftN_no {c : PConf} {x : PRec} (h : graftB c x = false) : graftN c x = 260 := by unfold graftN; rw [h]; rfl
theorem graftN_yes {c : PConf} {x : PRec} (h : graftB c x = true) : graftN c x = 0 := by unfold graftN; rw [h]; rfl
theorem edgesF_len {c : PConf} {now : Int} {ws : List PWait} {ds : List PIdle} {n m : Nat} (hn : ws.length = n) (hm : ds.length = m) (h1 : n ≤ 1048576) (h2 : m ≤ 1048576) : (edgesF c now ws ds).length ≤ 1099511627776 := by
  rw [edgesF, List.length_map]
  have k1 := pairsF_len ws ds
  have k2 : ws.length * ds.length ≤ 1048576 * 1048576 := Nat.mul_le_mul (by omega) (by omega)
  omega

set_option maxHeartbeats 8000000 in
theorem graft_any (w : World) (c : PConf) (v : RV) (hin : v.In w) : Calls Tryz.prog 49 #[.agg #[.int .i64 c.q, .int .i64 c.d, .int .i64 c.w, .int .i64 c.ttl, .int .i64 c.b], .agg #[.int .i64 v.x.tick, .slice v.wo v.wn v.wc, .slice v.ko v.kn v.kc, .int .i64 v.x.rows, .int .i64 v.x.cols, .slice v.eo v.en v.ec, .slice v.po v.pn v.pc, .slice v.yo v.yn v.yc, .slice v.zo v.zn v.zc]] w fun e w' => e = .returned (.int .i64 (graftN c v.x)) ∧ Below w.heap.size w w' := by
  have HIN := Lib.hid hin
  have wb := hin.wb
  have kb := hin.kb
  have eb := hin.eb
  clear hin
  have HW := Lib.hid (CrRel.begin w c v)
  go_enter Tryz.func49, Tryz.ntmps49
  go_upto_region 1 with fail
  generalize (w.alloc (.cells #[.int .i64 c.q, .int .i64 c.d, .int .i64 c.w, .int .i64 c.ttl, .int .i64 c.b] 23)).alloc (.cells #[.int .i64 v.x.tick, .slice v.wo v.wn v.wc, .slice v.ko v.kn v.kc, .int .i64 v.x.rows, .int .i64 v.x.cols, .slice v.eo v.en v.ec, .slice v.po v.pn v.pc, .slice v.yo v.yn v.yc, .slice v.zo v.zn v.zc] 34) = W at *
  generalize w.heap.size + 1 = H1 at *
  have HHE := Lib.hid (show ∃ H0, w.heap.size = H0 from ⟨_, rfl⟩)
  obtain ⟨H0, hH0⟩ := HHE.out
  rw [hH0] at HW
  rw [hH0]
  have HH := Lib.hid hH0
  clear hH0 HHE
  obtain ⟨g0, g1, g2, g3, g4, g5, g6, g7, g8⟩ := cells9 HW.out.h
  go_wp2_with (first | ((with_reducible refine wpList_load_elem (o := ⟨some 8, _, _, _, _, _⟩) ?_ 23 (.tmp 2) ?_ H0 (0) ?_ c.cells #[.int .i64 c.q, .int .i64 c.d, .int .i64 c.w, .int .i64 c.ttl, .int .i64 c.b] ?_ _ (conf_whole HW.out.g) Tryz.underlying23 ?_ ?_ ?_); rfl; rfl; rfl; rfl; rfl; exact sz_conf))
  have HIW := Lib.hid (HIN.out.keep HW.out.below)
  refine (wgraph_any W c v.x.tick v.wo v.ko v.wn v.kn v.wc v.kc v.x.ws v.x.ds HIW.out.ok.tick HIW.out.wl HIW.out.kl HIW.out.wr HIW.out.kr HIW.out.ok.ws HIW.out.ok.ds wb kb).mono ?_
  intro e w1 hpost
  rcases hpost with ⟨hne, rfl, hb⟩ | ⟨hz, ev, rfl, hg⟩
  · have HR1 := Lib.hid (HW.out.keep hb)
    have HF := Lib.hid (graftN_no (graftB_1 hne))
    clear hb HIW g0 g1 g2 g3 g4 g5 g6 g7 g8 HW
    obtain ⟨g0, g1, g2, g3, g4, g5, g6, g7, g8⟩ := cells9 HR1.out.h
    generalize buildE c v.x.tick v.x.ws v.x.ds = E at *
    have e1 : (E != 0) = true := by simp [hne]
    have e2 : (E == 0) = false := by simp [hne]
    clear hne
    go_wp2_with fail
    go_ret
    exact ⟨by rw [HF.out]; rfl, (HR1.out.one _).below⟩
  · have HR1 := Lib.hid (HW.out.keep hg.below)
    obtain ⟨eo, ec, rfl, her⟩ := hg.shape
    have HER := Lib.hid her
    have HZ := Lib.hid hz
    clear hg HIW g0 g1 g2 g3 g4 g5 g6 g7 g8 HW her hz
    obtain ⟨g0, g1, g2, g3, g4, g5, g6, g7, g8⟩ := cells9 HR1.out.h
    rw [HIN.out.wl, HIN.out.kl]
    have HLE := Lib.hid (edgesF_len (c := c) (now := v.x.tick) HIN.out.wl HIN.out.kl wb kb)
    have HR2 := Lib.hid (HR1.out.one (.cells #[.int .i64 v.wn, .int .i64 v.kn, .slice eo (edgesF c v.x.tick v.x.ws v.x.ds).length ec] 28))
    have HER2 := Lib.hid (HER.out.below ((Below.refl w1.heap.size w1).alloc (Nat.le_refl _) (.cells #[.int .i64 v.wn, .int .i64 v.kn, .slice eo (edgesF c v.x.tick v.x.ws v.x.ds).length ec] 28)))
    have HBOX := Lib.hid (heap_alloc_new w1 (.cells #[.int .i64 v.wn, .int .i64 v.kn, .slice eo (edgesF c v.x.tick v.x.ws v.x.ds).length ec] 28))
    go_upto_region 2 with fail
    generalize w1.alloc (.cells #[.int .i64 v.wn, .int .i64 v.kn, .slice eo (edgesF c v.x.tick v.x.ws v.x.ds).length ec] 28) = W2 at *
    generalize w1.heap.size = H5 at *
    clear HR1 HER g0 g1 g2 g3 g4 g5 g6 g7 g8
    obtain ⟨g0, g1, g2, g3, g4, g5, g6, g7, g8⟩ := cells9 HR2.out.h
    obtain ⟨r0, r1, r2, rf⟩ := cells3 HBOX.out
    by_cases h1 : (v.wn : Int) = v.x.rows
    · by_cases h2 : (v.kn : Int) = v.x.cols
      · have e1 : ((v.wn : Int) != v.x.rows) = false := by simp [h1]
        have e2 : ((v.kn : Int) != v.x.cols) = false := by simp [h2]
        have HY := Lib.hid (fun h => graftN_yes (graftB_5 (c := c) HZ.out HIN.out.wl HIN.out.kl h1 h2 h))
        have HN := Lib.hid (fun h => graftN_no (graftB_4 (c := c) (x := v.x) h))
        clear h1 h2
        go_wp2_with fail
        have HIW := Lib.hid (HIN.out.keep HR2.out.below)
        refine (equal_any W2 eo v.eo (edgesF c v.x.tick v.x.ws v.x.ds).length ec v.en v.ec (edgesF c v.x.tick v.x.ws v.x.ds) v.x.es rfl HER2.out (by have := HLE.out; omega) HIW.out.el HIW.out.er (by omega)).mono ?_
        rintro e w2 ⟨rfl, hb2⟩
        have HR3 := Lib.hid (HR2.out.keep hb2)
        clear hb2 HIW HER2
        cases hs : sameL (edgesF c v.x.tick v.x.ws v.x.ds) v.x.es with
        | true =>
          have HF := Lib.hid (HY.out hs)
          clear HY HN
          go_wp2_with fail
          go_ret
          exact ⟨by rw [HF.out]; rfl, HR3.out.below⟩
        | false =>
          have HF := Lib.hid (HN.out hs)
          clear HY HN
          go_wp2_with fail
          go_ret
          exact ⟨by rw [HF.out]; rfl, HR3.out.below⟩
      · have e1 : ((v.wn : Int) != v.x.rows) = false := by simp [h1]
        have e2 : ((v.kn : Int) != v.x.cols) = true := by simp [h2]
        have HF := Lib.hid (graftN_no (graftB_3 (c := c) HIN.out.kl h2))
        clear h1 h2
        go_wp2_with fail
        go_ret
        exact ⟨by rw [HF.out]; rfl, HR2.out.below⟩
    · have e1 : ((v.wn : Int) != v.x.rows) = true := by simp [h1]
      have HF := Lib.hid (graftN_no (graftB_2 (c := c) HIN.out.wl h1))
      clear h1
      go_wp2_with fail
      go_ret
      exact ⟨by rw [HF.out]; rfl, HR2.out.below⟩
end Go.Proofs.YtcaicgipibcicaaGreat

/- Chapter 26: what the reference says of a record. -/
namespace Go.Proofs.YtcaicgipibcicaaGreat
set_option maxRecDepth 100000
set_option linter.unusedVariables false
set_option linter.unusedSimpArgs false
open Go.RowKit Go.Sort

theorem configE_or (c : PConf) : (configE c = 0 ∧ configF c = true) ∨ (configE c = 160 ∧ configF c = false) := by
  unfold configE
  cases h : configF c
  · exact .inr ⟨rfl, rfl⟩
  · exact .inl ⟨rfl, rfl⟩
theorem auditE_1 {c : PConf} {x : PRec} (h : configE c = 160) : auditE c x = 160 := by unfold auditE; rw [h]; rfl
theorem auditE_2 {c : PConf} {x : PRec} (h1 : configE c = 0) (h : closesB c x.tick = false) : auditE c x = 262 := by unfold auditE; rw [h1, h]; rfl
theorem auditE_3 {c : PConf} {x : PRec} (h1 : configE c = 0) (h2 : closesB c x.tick = true) (h : recE x ≠ 0) : auditE c x = recE x := by unfold auditE; rw [h1, h2]; simp [h]
theorem auditE_4 {c : PConf} {x : PRec} (h1 : configE c = 0) (h2 : closesB c x.tick = true) (h3 : recE x = 0) (h : listsF c x = false) : auditE c x = 1 := by unfold auditE; rw [h1, h2, h3, h]; rfl
theorem auditE_5 {c : PConf} {x : PRec} (h1 : configE c = 0) (h2 : closesB c x.tick = true) (h3 : recE x = 0) (h4 : listsF c x = true) (h : graftB c x = false) : auditE c x = 260 := by unfold auditE; rw [h1, h2, h3, h4, h]; rfl
theorem auditE_6 {c : PConf} {x : PRec} (h1 : configE c = 0) (h2 : closesB c x.tick = true) (h3 : recE x = 0) (h4 : listsF c x = true) (h : graftB c x = true) : auditE c x = certE x.rows x.cols x.es x.ps x.ys x.zs := by unfold auditE; rw [h1, h2, h3, h4, h]; rfl
theorem graftB_6 {c : PConf} {x : PRec} {n m : Nat} (h0 : buildE c x.tick x.ws x.ds = 0) (hn : x.ws.length = n) (hm : x.ds.length = m) : graftB c x = sameG n m (edgesF c x.tick x.ws x.ds) x.rows x.cols x.es := by
  subst hn
  subst hm
  unfold graftB sameG sameL
  simp [h0, eq_comm]

set_option maxHeartbeats 8000000 in
theorem raudit_any (w : World) (c : PConf) (v : RV) (hin : v.In w) : Calls Tryz.prog 14 #[.agg #[.int .i64 c.q, .int .i64 c.d, .int .i64 c.w, .int .i64 c.ttl, .int .i64 c.b], .agg #[.int .i64 v.x.tick, .slice v.wo v.wn v.wc, .slice v.ko v.kn v.kc, .int .i64 v.x.rows, .int .i64 v.x.cols, .slice v.eo v.en v.ec, .slice v.po v.pn v.pc, .slice v.yo v.yn v.yc, .slice v.zo v.zn v.zc]] w fun e w' => e = .returned (.int .i64 (auditE c v.x)) ∧ Below w.heap.size w w' := by
  have HIN := Lib.hid hin
  have wb := hin.wb
  have kb := hin.kb
  have eb := hin.eb
  have pb := hin.pb
  have yb := hin.yb
  have zb := hin.zb
  clear hin
  have HW := Lib.hid (CrRel.begin w c v)
  go_enter Tryz.func14, Tryz.ntmps14
  go_upto_region 1 with fail
  generalize (w.alloc (.cells #[.int .i64 c.q, .int .i64 c.d, .int .i64 c.w, .int .i64 c.ttl, .int .i64 c.b] 23)).alloc (.cells #[.int .i64 v.x.tick, .slice v.wo v.wn v.wc, .slice v.ko v.kn v.kc, .int .i64 v.x.rows, .int .i64 v.x.cols, .slice v.eo v.en v.ec, .slice v.po v.pn v.pc, .slice v.yo v.yn v.yc, .slice v.zo v.zn v.zc] 34) = W at *
  generalize w.heap.size + 1 = H1 at *
  have HHE := Lib.hid (show ∃ H0, w.heap.size = H0 from ⟨_, rfl⟩)
  obtain ⟨H0, hH0⟩ := HHE.out
  rw [hH0] at HW
  rw [hH0]
  have HH := Lib.hid hH0
  clear hH0 HHE
  go_wp2_with (first | ((with_reducible refine wpList_load_elem (o := ⟨some 7, _, _, _, _, _⟩) ?_ 23 (.tmp 2) ?_ H0 (0) ?_ c.cells #[.int .i64 c.q, .int .i64 c.d, .int .i64 c.w, .int .i64 c.ttl, .int .i64 c.b] ?_ _ (conf_whole HW.out.g) Tryz.underlying23 ?_ ?_ ?_); rfl; rfl; rfl; rfl; rfl; exact sz_conf))
  refine (rconfig_any W c).mono ?_
  rintro e w1 ⟨rfl, hb1⟩
  have HR1 := Lib.hid (HW.out.keep hb1)
  clear hb1 HW
  rcases configE_or c with ⟨q1, q2⟩ | ⟨q1, q2⟩
  case inr =>
    have HF := Lib.hid (auditE_1 (x := v.x) q1)
    rw [q1]
    clear q1 q2
    go_wp2_with fail
    go_ret
    exact ⟨by rw [HF.out]; rfl, HR1.out.below⟩
  have HQ := Lib.hid q1
  have HQF := Lib.hid q2
  rw [q1]
  clear q1 q2
  obtain ⟨g0, g1, g2, g3, g4, g5, g6, g7, g8⟩ := cells9 HR1.out.h
  go_wp2_with (first | ((with_reducible refine wpList_load_elem (o := ⟨some 12, _, _, _, _, _⟩) ?_ 23 (.tmp 2) ?_ H0 (0) ?_ c.cells #[.int .i64 c.q, .int .i64 c.d, .int .i64 c.w, .int .i64 c.ttl, .int .i64 c.b] ?_ _ (conf_whole HR1.out.g) Tryz.underlying23 ?_ ?_ ?_); rfl; rfl; rfl; rfl; rfl; exact sz_conf))
  refine (rcloses_any w1 c v.x.tick HQF.out).mono ?_
  rintro e w2 ⟨rfl, hb2⟩
  have HR2 := Lib.hid (HR1.out.keep hb2)
  clear hb2 HR1 g0 g1 g2 g3 g4 g5 g6 g7 g8
  cases hcl : closesB c v.x.tick with
  | false =>
    have HF := Lib.hid (auditE_2 HQ.out hcl)
    clear hcl
    go_wp2_with fail
    go_ret
    exact ⟨by rw [HF.out]; rfl, HR2.out.below⟩
  | true =>
  have HC := Lib.hid hcl
  clear hcl
  obtain ⟨g0, g1, g2, g3, g4, g5, g6, g7, g8⟩ := cells9 HR2.out.h
  go_wp2_with fail
  refine (rrec_any w2 v (HIN.out.keep HR2.out.below)).mono ?_
  rintro e w3 ⟨rfl, hb3⟩
  have HR3 := Lib.hid (HR2.out.keep hb3)
  clear hb3 HR2 g0 g1 g2 g3 g4 g5 g6 g7 g8
  obtain ⟨E, hE⟩ : ∃ E, recE v.x = E := ⟨_, rfl⟩
  rw [hE]
  have HEE := Lib.hid hE
  clear hE
  by_cases h0 : E = 0
  case neg =>
    have HF := Lib.hid (auditE_3 HQ.out HC.out (by rw [HEE.out]; exact h0))
    have e1 : (E != 0) = true := by simp [h0]
    have e2 : (E == 0) = false := by simp [h0]
    clear h0
    go_wp2_with fail
    go_ret
    exact ⟨by rw [HF.out, HEE.out]; rfl, HR3.out.below⟩
  subst h0
  obtain ⟨g0, g1, g2, g3, g4, g5, g6, g7, g8⟩ := cells9 HR3.out.h
  go_wp2_with (first | ((with_reducible refine wpList_load_elem (o := ⟨some 22, _, _, _, _, _⟩) ?_ 23 (.tmp 2) ?_ H0 (0) ?_ c.cells #[.int .i64 c.q, .int .i64 c.d, .int .i64 c.w, .int .i64 c.ttl, .int .i64 c.b] ?_ _ (conf_whole HR3.out.g) Tryz.underlying23 ?_ ?_ ?_); rfl; rfl; rfl; rfl; rfl; exact sz_conf))
  refine (rlists_any w3 c v (HIN.out.keep HR3.out.below) HEE.out).mono ?_
  rintro e w4 ⟨rfl, hb4⟩
  have HR4 := Lib.hid (HR3.out.keep hb4)
  clear hb4 HR3 g0 g1 g2 g3 g4 g5 g6 g7 g8
  cases hls : listsF c v.x with
  | false =>
    have HF := Lib.hid (auditE_4 HQ.out HC.out HEE.out hls)
    clear hls
    go_wp2_with fail
    go_ret
    exact ⟨by rw [HF.out]; rfl, HR4.out.below⟩
  | true =>
  have HL := Lib.hid hls
  clear hls
  obtain ⟨g0, g1, g2, g3, g4, g5, g6, g7, g8⟩ := cells9 HR4.out.h
  have HIW := Lib.hid (HIN.out.keep HR4.out.below)
  go_wp2_with (first | ((with_reducible refine wpList_load_elem (o := ⟨some 27, _, _, _, _, _⟩) ?_ 23 (.tmp 2) ?_ H0 (0) ?_ c.cells #[.int .i64 c.q, .int .i64 c.d, .int .i64 c.w, .int .i64 c.ttl, .int .i64 c.b] ?_ _ (conf_whole HR4.out.g) Tryz.underlying23 ?_ ?_ ?_); rfl; rfl; rfl; rfl; rfl; exact sz_conf))
  as_aux_lemma =>
    refine (rgraph_any w4 c v.x.tick v.wo v.ko v.wn v.kn v.wc v.kc v.x.ws v.x.ds HIW.out.ok.tick HIW.out.wl HIW.out.kl HIW.out.wr HIW.out.kr HIW.out.ok.ws HIW.out.ok.ds wb kb).mono ?_
    intro e w5 hpost
    rcases hpost with ⟨hne, rfl, hb⟩ | ⟨hz, ev, rfl, hg⟩
    · have HR5 := Lib.hid (HR4.out.keep hb)
      have HF := Lib.hid (auditE_5 HQ.out HC.out HEE.out HL.out (graftB_1 hne))
      clear hb HIW g0 g1 g2 g3 g4 g5 g6 g7 g8 HR4
      generalize buildE c v.x.tick v.x.ws v.x.ds = E at *
      have e1 : (E != 0) = true := by simp [hne]
      have e2 : (E == 0) = false := by simp [hne]
      clear hne
      go_wp2_with fail
      go_ret
      exact ⟨by rw [HF.out]; rfl, (HR5.out.one _).below⟩
    · have HR5 := Lib.hid (HR4.out.keep hg.below)
      obtain ⟨eo, ec, rfl, her⟩ := hg.shape
      have HZ := Lib.hid hz
      have HER2 := Lib.hid (her.below ((Below.refl w5.heap.size w5).alloc (Nat.le_refl _) (.cells #[.int .i64 v.x.ws.length, .int .i64 v.x.ds.length, .slice eo (edgesF c v.x.tick v.x.ws v.x.ds).length ec] 28)))
      have HR6 := Lib.hid (HR5.out.one (.cells #[.int .i64 v.x.ws.length, .int .i64 v.x.ds.length, .slice eo (edgesF c v.x.tick v.x.ws v.x.ds).length ec] 28))
      have HBOX := Lib.hid (heap_alloc_new w5 (.cells #[.int .i64 v.x.ws.length, .int .i64 v.x.ds.length, .slice eo (edgesF c v.x.tick v.x.ws v.x.ds).length ec] 28))
      clear hg HIW g0 g1 g2 g3 g4 g5 g6 g7 g8 her hz HR4
      rw [HIN.out.wl, HIN.out.kl] at *
      have HLE := Lib.hid (edgesF_len (c := c) (now := v.x.tick) HIN.out.wl HIN.out.kl wb kb)
      go_upto_region 12 with fail
      generalize w5.alloc (.cells #[.int .i64 v.wn, .int .i64 v.kn, .slice eo (edgesF c v.x.tick v.x.ws v.x.ds).length ec] 28) = W6 at *
      generalize w5.heap.size = H6 at *
      clear HR5
      obtain ⟨g0, g1, g2, g3, g4, g5, g6, g7, g8⟩ := cells9 HR6.out.h
      obtain ⟨r0, r1, r2, rf⟩ := cells3 HBOX.out
      have HIW := Lib.hid (HIN.out.keep HR6.out.below)
      go_wp2_with fail
      refine (same_any W6 v.wn v.kn v.x.rows v.x.cols eo v.eo (edgesF c v.x.tick v.x.ws v.x.ds).length ec v.en v.ec (edgesF c v.x.tick v.x.ws v.x.ds) v.x.es rfl HER2.out (by have := HLE.out; omega) HIW.out.el HIW.out.er (by omega)).mono ?_
      rintro e w7 ⟨rfl, hb7⟩
      have HR7 := Lib.hid (HR6.out.keep hb7)
      have HGB := Lib.hid (graftB_6 HZ.out HIN.out.wl HIN.out.kl)
      clear hb7 HIW HER2 HR6 HBOX r0 r1 r2 rf g0 g1 g2 g3 g4 g5 g6 g7 g8
      cases hs : sameG v.wn v.kn (edgesF c v.x.tick v.x.ws v.x.ds) v.x.rows v.x.cols v.x.es with
      | false =>
        have HF := Lib.hid (auditE_5 HQ.out HC.out HEE.out HL.out (by rw [HGB.out, hs]))
        clear hs
        go_wp2_with fail
        go_ret
        exact ⟨by rw [HF.out]; rfl, HR7.out.below⟩
      | true =>
        have HF := Lib.hid (auditE_6 HQ.out HC.out HEE.out HL.out (by rw [HGB.out, hs]))
        clear hs
        obtain ⟨g0, g1, g2, g3, g4, g5, g6, g7, g8⟩ := cells9 HR7.out.h
        have HIW := Lib.hid (HIN.out.keep HR7.out.below)
        go_wp2_with fail
        refine (rcertcheck_any w7 v.x.rows v.x.cols v.eo v.po v.yo v.zo v.en v.ec v.pn v.pc v.yn v.yc v.zn v.zc v.x.es v.x.ps v.x.ys v.x.zs HIW.out.el HIW.out.er (by omega) HIW.out.pl HIW.out.pr pb (by omega) (by omega) HIW.out.yl HIW.out.yr HIW.out.zl HIW.out.zr HIW.out.ok.ys).mono ?_
        rintro e w8 ⟨rfl, hb8⟩
        have HR8 := Lib.hid (HR7.out.keep hb8)
        clear hb8 HR7 HIW g0 g1 g2 g3 g4 g5 g6 g7 g8
        go_wp2_with fail
        go_ret
        exact ⟨by rw [HF.out]; rfl, HR8.out.below⟩
end Go.Proofs.YtcaicgipibcicaaGreat
