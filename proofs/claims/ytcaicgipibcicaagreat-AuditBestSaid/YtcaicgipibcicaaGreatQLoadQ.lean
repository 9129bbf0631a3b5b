/- audit.Record: what the program says of a record. -/
import Derived.Test.YtcaicgipibcicaaGreatQMapK
import Derived.Test.YtcaicgipibcicaaGreatQRAudit
import Derived.Test.YtcaicgipibcicaaGreatQClaim5
import Derived.Test.YtcaicgipibcicaaGreatQWr
import Derived.BigQuiet
import Derived.Deep.MidRow
namespace Go.Proofs.YtcaicgipibcicaaGreat
set_option maxRecDepth 100000
set_option linter.unusedVariables false
set_option linter.unusedSimpArgs false
open Go.RowKit Go.Sort

def closesN (c : PConf) (t : Int) : Int := if closesB c t then 0 else 262
def lookE (c : PConf) (x : PRec) : List Int := [configE c, closesN c x.tick, recE x, listsN c x, graftN c x, certE x.rows x.cols x.es x.ps x.ys x.zs]
theorem lookE_first (c : PConf) (x : PRec) : firstE (lookE c x) = auditE c x := by
  unfold lookE auditE closesN listsN graftN
  rcases configE_or c with ⟨h, _⟩ | ⟨h, _⟩
  · by_cases h3 : recE x = 0
    · cases h2 : closesB c x.tick <;> cases h4 : listsF c x <;> cases h5 : graftB c x <;> simp [firstE, h, h3]
      intro h6
      exact h6.symm
    · cases h2 : closesB c x.tick <;> cases h4 : listsF c x <;> cases h5 : graftB c x <;> simp [firstE, h, h3]
  · simp [firstE, h]

set_option maxHeartbeats 4000000 in
theorem look1_any (w wr : World) (c : PConf) (v : RV) (H0 H1 : Nat) (h : CrRel w c v H0 H1 wr) : Calls Tryz.prog 41 #[.pointer (some ⟨H0, 0, none⟩)] wr fun e w' => e = .returned (.int .i64 (configE c)) ∧ Below wr.heap.size wr w' := by
  have HW := Lib.hid h
  clear h
  go_enter Tryz.func41, Tryz.ntmps41
  go_wp2_with (first | ((with_reducible refine wpList_load_elem (o := ⟨some 2, _, _, _, _, _⟩) ?_ 23 (.tmp 0) ?_ H0 (0) ?_ c.cells #[.int .i64 c.q, .int .i64 c.d, .int .i64 c.w, .int .i64 c.ttl, .int .i64 c.b] ?_ _ (conf_whole HW.out.g) Tryz.underlying23 ?_ ?_ ?_); rfl; rfl; rfl; rfl; rfl; exact sz_conf))
  refine (config_any wr c).mono ?_
  rintro e w1 ⟨rfl, hb1⟩
  have HB := Lib.hid hb1
  clear hb1
  go_wp2_with fail
  go_ret
  exact ⟨rfl, HB.out⟩
set_option maxHeartbeats 4000000 in
theorem look2_any (w wr : World) (c : PConf) (v : RV) (H0 H1 : Nat) (h : CrRel w c v H0 H1 wr) (hc : configF c = true) : Calls Tryz.prog 43 #[.pointer (some ⟨H1, 0, none⟩), .pointer (some ⟨H0, 0, none⟩)] wr fun e w' => e = .returned (.int .i64 (closesN c v.x.tick)) ∧ Below wr.heap.size wr w' := by
  obtain ⟨g0, g1, g2, g3, g4, g5, g6, g7, g8⟩ := cells9 h.h
  have q2 := (conf_cells h.g).2.2.1
  have hw : 1 ≤ c.w := by
    simp only [configF, amongF, Bool.and_eq_true, decide_eq_true_eq] at hc
    omega
  clear h hc
  by_cases h1 : 1 ≤ v.x.tick
  · by_cases h2 : v.x.tick ≤ 1099511627776
    · have hm : v.x.tick.tmod c.w = v.x.tick % c.w := Int.tmod_eq_emod_of_nonneg (by omega)
      by_cases h3 : v.x.tick % c.w = 0
      · have HF := Lib.hid (show closesN c v.x.tick = 0 by simp [closesN, closesB, h1, h2, h3])
        have e1 : (v.x.tick % c.w != 0) = false := by simp [h3]
        clear h3
        go_enter Tryz.func43, Tryz.ntmps43
        go_wp2_with fail
        go_ret
        exact ⟨by rw [HF.out]; rfl, Below.refl _ _⟩
      · have HF := Lib.hid (show closesN c v.x.tick = 262 by simp [closesN, closesB, h3])
        have e1 : (v.x.tick % c.w != 0) = true := by simp [h3]
        clear h3
        go_enter Tryz.func43, Tryz.ntmps43
        go_wp2_with fail
        go_ret
        exact ⟨by rw [HF.out]; rfl, Below.refl _ _⟩
    · have HF := Lib.hid (show closesN c v.x.tick = 262 by simp [closesN, closesB, h2])
      go_enter Tryz.func43, Tryz.ntmps43
      go_wp2_with fail
      go_ret
      exact ⟨by rw [HF.out]; rfl, Below.refl _ _⟩
  · have HF := Lib.hid (show closesN c v.x.tick = 262 by simp [closesN, closesB, h1])
    go_enter Tryz.func43, Tryz.ntmps43
    go_wp2_with fail
    go_ret
    exact ⟨by rw [HF.out]; rfl, Below.refl _ _⟩
set_option maxHeartbeats 4000000 in
theorem look3_any (w wr : World) (c : PConf) (v : RV) (H0 H1 : Nat) (h : CrRel w c v H0 H1 wr) (hin : v.In wr) : Calls Tryz.prog 44 #[.pointer (some ⟨H1, 0, none⟩)] wr fun e w' => e = .returned (.int .i64 (recE v.x)) ∧ Below wr.heap.size wr w' := by
  obtain ⟨g0, g1, g2, g3, g4, g5, g6, g7, g8⟩ := cells9 h.h
  have HIN := Lib.hid hin
  clear h hin
  go_enter Tryz.func44, Tryz.ntmps44
  go_wp2_with fail
  refine (may_any wr v HIN.out).mono ?_
  rintro e w1 ⟨rfl, hb1⟩
  have HB := Lib.hid hb1
  clear hb1
  go_wp2_with fail
  go_ret
  exact ⟨rfl, HB.out⟩
set_option maxHeartbeats 4000000 in
theorem look4_any (w wr : World) (c : PConf) (v : RV) (H0 H1 : Nat) (h : CrRel w c v H0 H1 wr) (hin : v.In wr) (hrec : recE v.x = 0) : Calls Tryz.prog 46 #[.pointer (some ⟨H0, 0, none⟩), .pointer (some ⟨H1, 0, none⟩)] wr fun e w' => e = .returned (.int .i64 (listsN c v.x)) ∧ Below wr.heap.size wr w' := by
  obtain ⟨g0, g1, g2, g3, g4, g5, g6, g7, g8⟩ := cells9 h.h
  have HIN := Lib.hid hin
  have HW := Lib.hid h
  have HREC := Lib.hid hrec
  clear h hin hrec
  go_enter Tryz.func46, Tryz.ntmps46
  go_wp2_with (first | ((with_reducible refine wpList_load_elem (o := ⟨some 3, _, _, _, _, _⟩) ?_ 23 (.tmp 0) ?_ H0 (0) ?_ c.cells #[.int .i64 c.q, .int .i64 c.d, .int .i64 c.w, .int .i64 c.ttl, .int .i64 c.b] ?_ _ (conf_whole HW.out.g) Tryz.underlying23 ?_ ?_ ?_); rfl; rfl; rfl; rfl; rfl; exact sz_conf))
  refine (alists_any wr c v HIN.out HREC.out).mono ?_
  rintro e w1 ⟨rfl, hb1⟩
  have HB := Lib.hid hb1
  clear hb1
  go_wp2_with fail
  go_ret
  exact ⟨rfl, HB.out⟩
set_option maxHeartbeats 4000000 in
theorem look5_any (w wr : World) (c : PConf) (v : RV) (H0 H1 : Nat) (h : CrRel w c v H0 H1 wr) (hin : v.In wr) : Calls Tryz.prog 48 #[.pointer (some ⟨H0, 0, none⟩), .pointer (some ⟨H1, 0, none⟩)] wr fun e w' => e = .returned (.int .i64 (graftN c v.x)) ∧ Below wr.heap.size wr w' := by
  obtain ⟨g0, g1, g2, g3, g4, g5, g6, g7, g8⟩ := cells9 h.h
  have HIN := Lib.hid hin
  have HW := Lib.hid h
  clear h hin
  go_enter Tryz.func48, Tryz.ntmps48
  go_wp2_with (first | ((with_reducible refine wpList_load_elem (o := ⟨some 3, _, _, _, _, _⟩) ?_ 23 (.tmp 0) ?_ H0 (0) ?_ c.cells #[.int .i64 c.q, .int .i64 c.d, .int .i64 c.w, .int .i64 c.ttl, .int .i64 c.b] ?_ _ (conf_whole HW.out.g) Tryz.underlying23 ?_ ?_ ?_); rfl; rfl; rfl; rfl; rfl; exact sz_conf))
  refine (graft_any wr c v HIN.out).mono ?_
  rintro e w1 ⟨rfl, hb1⟩
  have HB := Lib.hid hb1
  clear hb1
  go_wp2_with fail
  go_ret
  exact ⟨rfl, HB.out⟩
set_option maxHeartbeats 4000000 in
theorem look6_any (w wr : World) (c : PConf) (v : RV) (H0 H1 : Nat) (h : CrRel w c v H0 H1 wr) (hin : v.In wr) : Calls Tryz.prog 50 #[.pointer (some ⟨H1, 0, none⟩)] wr fun e w' => e = .returned (.int .i64 (certE v.x.rows v.x.cols v.x.es v.x.ps v.x.ys v.x.zs)) ∧ Below wr.heap.size wr w' := by
  obtain ⟨g0, g1, g2, g3, g4, g5, g6, g7, g8⟩ := cells9 h.h
  have eb := hin.eb
  have pb := hin.pb
  have yb := hin.yb
  have zb := hin.zb
  have HIN := Lib.hid hin
  clear h hin
  go_enter Tryz.func50, Tryz.ntmps50
  go_wp2_with fail
  refine (certcheck_any wr v.x.rows v.x.cols v.eo v.po v.yo v.zo v.en v.ec v.pn v.pc v.yn v.yc v.zn v.zc v.x.es v.x.ps v.x.ys v.x.zs HIN.out.el HIN.out.er (by omega) HIN.out.pl HIN.out.pr pb (by omega) (by omega) HIN.out.yl HIN.out.yr HIN.out.zl HIN.out.zr HIN.out.ok.ys).mono ?_
  rintro e w1 ⟨rfl, hb1⟩
  have HB := Lib.hid hb1
  clear hb1
  go_wp2_with fail
  go_ret
  exact ⟨rfl, HB.out⟩

/-- The looks, and what they hold. -/
def looks (H0 H1 : Nat) : List (Nat × Array Value) := [(41, #[.pointer (some ⟨H0, 0, none⟩)]), (43, #[.pointer (some ⟨H1, 0, none⟩), .pointer (some ⟨H0, 0, none⟩)]), (44, #[.pointer (some ⟨H1, 0, none⟩)]), (46, #[.pointer (some ⟨H0, 0, none⟩), .pointer (some ⟨H1, 0, none⟩)]), (48, #[.pointer (some ⟨H0, 0, none⟩), .pointer (some ⟨H1, 0, none⟩)]), (50, #[.pointer (some ⟨H1, 0, none⟩)])]
theorem looks_cell (w : World) (H0 H1 : Nat) : ∀ (k : Nat) (p : Nat × Array Value), (looks H0 H1)[k]? = some p → (w.alloc (.cells #[.func (.func 41) #[] #[.pointer (some ⟨H0, 0, none⟩)], .func (.func 43) #[] #[.pointer (some ⟨H1, 0, none⟩), .pointer (some ⟨H0, 0, none⟩)], .func (.func 44) #[] #[.pointer (some ⟨H1, 0, none⟩)], .func (.func 46) #[] #[.pointer (some ⟨H0, 0, none⟩), .pointer (some ⟨H1, 0, none⟩)], .func (.func 48) #[] #[.pointer (some ⟨H0, 0, none⟩), .pointer (some ⟨H1, 0, none⟩)], .func (.func 50) #[] #[.pointer (some ⟨H1, 0, none⟩)]] 103)).cell? ⟨w.heap.size, k, none⟩ = some (.func (.func p.1) #[] p.2) := by
  intro k p hp
  rw [cell_of_row _ _ _ _ _ (0, 0) (heap_alloc_new w _)]
  match k, hp with
  | 0, hp => simp [looks] at hp; subst hp; rfl
  | 1, hp => simp [looks] at hp; subst hp; rfl
  | 2, hp => simp [looks] at hp; subst hp; rfl
  | 3, hp => simp [looks] at hp; subst hp; rfl
  | 4, hp => simp [looks] at hp; subst hp; rfl
  | 5, hp => simp [looks] at hp; subst hp; rfl

theorem enter_look1 (args : Array Value) (w : World) : (callFunc 41 args).run Tryz.prog w = .ok (.enter 41 args) w := by kernel_rfl
theorem enter_look2 (args : Array Value) (w : World) : (callFunc 43 args).run Tryz.prog w = .ok (.enter 43 args) w := by kernel_rfl
theorem enter_look3 (args : Array Value) (w : World) : (callFunc 44 args).run Tryz.prog w = .ok (.enter 44 args) w := by kernel_rfl
theorem enter_look4 (args : Array Value) (w : World) : (callFunc 46 args).run Tryz.prog w = .ok (.enter 46 args) w := by kernel_rfl
theorem enter_look5 (args : Array Value) (w : World) : (callFunc 48 args).run Tryz.prog w = .ok (.enter 48 args) w := by kernel_rfl
theorem enter_look6 (args : Array Value) (w : World) : (callFunc 50 args).run Tryz.prog w = .ok (.enter 50 args) w := by kernel_rfl
theorem looks_run (H0 H1 : Nat) : ∀ p ∈ looks H0 H1, ∀ args w, (callFunc p.1 args).run Tryz.prog w = .ok (.enter p.1 args) w := by
  intro p hp args w
  simp only [looks, List.mem_cons, List.not_mem_nil, or_false] at hp
  rcases hp with rfl | rfl | rfl | rfl | rfl | rfl
  · exact enter_look1 args w
  · exact enter_look2 args w
  · exact enter_look3 args w
  · exact enter_look4 args w
  · exact enter_look5 args w
  · exact enter_look6 args w
theorem looks_any (w wr : World) (c : PConf) (v : RV) (H0 H1 : Nat) (h : CrRel w c v H0 H1 wr) (hin : v.In wr) (k : Nat) (p : Nat × Array Value) (e : Int) (hp : (looks H0 H1)[k]? = some p) (he : (lookE c v.x)[k]? = some e) (hz : ∀ j : Nat, j < k → (lookE c v.x)[j]? = some 0) :
    Calls Tryz.prog p.1 p.2 wr fun r w' => r = .returned (.int .i64 e) ∧ Below wr.heap.size wr w' := by
  match k, hp, he, hz with
  | 0, hp, he, hz => simp [looks, lookE] at hp he; subst hp; subst he; exact look1_any w wr c v H0 H1 h
  | 1, hp, he, hz =>
    have h0 := hz 0 (by omega)
    simp [lookE] at h0
    simp [looks, lookE] at hp he; subst hp; subst he
    refine look2_any w wr c v H0 H1 h ?_
    rcases configE_or c with ⟨_, q⟩ | ⟨q, _⟩
    · exact q
    · omega
  | 2, hp, he, hz => simp [looks, lookE] at hp he; subst hp; subst he; exact look3_any w wr c v H0 H1 h hin
  | 3, hp, he, hz =>
    have h2 := hz 2 (by omega)
    simp [lookE] at h2
    simp [looks, lookE] at hp he; subst hp; subst he
    exact look4_any w wr c v H0 H1 h hin h2
  | 4, hp, he, hz => simp [looks, lookE] at hp he; subst hp; subst he; exact look5_any w wr c v H0 H1 h hin
  | 5, hp, he, hz => simp [looks, lookE] at hp he; subst hp; subst he; exact look6_any w wr c v H0 H1 h hin

set_option maxHeartbeats 8000000 in
theorem audit_any (w : World) (c : PConf) (v : RV) (hin : v.In w) : Calls Tryz.prog 13 #[.agg #[.int .i64 c.q, .int .i64 c.d, .int .i64 c.w, .int .i64 c.ttl, .int .i64 c.b], .agg #[.int .i64 v.x.tick, .slice v.wo v.wn v.wc, .slice v.ko v.kn v.kc, .int .i64 v.x.rows, .int .i64 v.x.cols, .slice v.eo v.en v.ec, .slice v.po v.pn v.pc, .slice v.yo v.yn v.yc, .slice v.zo v.zn v.zc]] w fun e w' => e = .returned (.int .i64 (auditE c v.x)) ∧ Below w.heap.size w w' := by
  have hmf : ∀ (fn : Fn) (first cap : Array Value) (w : World), (Instr.makeFunc fn first cap).run Tryz.prog w = .ok (.func fn first cap) w := fun _ _ _ _ => rfl
  have HIN := Lib.hid hin
  clear hin
  have HW := Lib.hid (CrRel.begin w c v)
  go_enter Tryz.func13, Tryz.ntmps13
  go_upto_region 1 with fail
  generalize (w.alloc (.cells #[.int .i64 c.q, .int .i64 c.d, .int .i64 c.w, .int .i64 c.ttl, .int .i64 c.b] 23)).alloc (.cells #[.int .i64 v.x.tick, .slice v.wo v.wn v.wc, .slice v.ko v.kn v.kc, .int .i64 v.x.rows, .int .i64 v.x.cols, .slice v.eo v.en v.ec, .slice v.po v.pn v.pc, .slice v.yo v.yn v.yc, .slice v.zo v.zn v.zc] 34) = W at *
  generalize w.heap.size + 1 = H1 at *
  have HHE := Lib.hid (show ∃ H0, w.heap.size = H0 from ⟨_, rfl⟩)
  obtain ⟨H0, hH0⟩ := HHE.out
  rw [hH0] at HW
  rw [hH0]
  have HH := Lib.hid hH0
  clear hH0 HHE
  have HCL := Lib.hid (looks_cell W H0 H1)
  have HR0 := Lib.hid (HW.out.one (.cells #[.func (.func 41) #[] #[.pointer (some ⟨H0, 0, none⟩)], .func (.func 43) #[] #[.pointer (some ⟨H1, 0, none⟩), .pointer (some ⟨H0, 0, none⟩)], .func (.func 44) #[] #[.pointer (some ⟨H1, 0, none⟩)], .func (.func 46) #[] #[.pointer (some ⟨H0, 0, none⟩), .pointer (some ⟨H1, 0, none⟩)], .func (.func 48) #[] #[.pointer (some ⟨H0, 0, none⟩), .pointer (some ⟨H1, 0, none⟩)], .func (.func 50) #[] #[.pointer (some ⟨H1, 0, none⟩)]] 103))
  go_upto_region 2 with fail
  generalize W.alloc (.cells #[.func (.func 41) #[] #[.pointer (some ⟨H0, 0, none⟩)], .func (.func 43) #[] #[.pointer (some ⟨H1, 0, none⟩), .pointer (some ⟨H0, 0, none⟩)], .func (.func 44) #[] #[.pointer (some ⟨H1, 0, none⟩)], .func (.func 46) #[] #[.pointer (some ⟨H0, 0, none⟩), .pointer (some ⟨H1, 0, none⟩)], .func (.func 48) #[] #[.pointer (some ⟨H0, 0, none⟩), .pointer (some ⟨H1, 0, none⟩)], .func (.func 50) #[] #[.pointer (some ⟨H1, 0, none⟩)]] 103) = W0 at *
  generalize W.heap.size = H2 at *
  clear HW hmf
  go_wp2_with fail
  go_loopw [18] (fun i wr => Hid (∃ k : Nat, i = .int .i64 k ∧ k ≤ 6 ∧ (∀ j : Nat, j < k → (lookE c v.x)[j]? = some 0) ∧ Below W0.heap.size W0 wr)) (fun i _ => 6 - (intOf i).toNat)
  case atStart => exact Lib.hid ⟨0, rfl, Nat.zero_le _, fun j hj => absurd hj (Nat.not_lt_zero j), Below.refl _ _⟩
  case round =>
    obtain ⟨k, rfl, hk, hall, hbel⟩ := hrel.out
    clear hrel
    have HALL := Lib.hid hall
    have HB := Lib.hid hbel
    clear hall hbel
    by_cases hlt : k < 6
    · obtain ⟨p, hp⟩ : ∃ p, (looks H0 H1)[k]? = some p := ⟨(looks H0 H1)[k]'(by simpa [looks] using hlt), List.getElem?_eq_getElem _⟩
      obtain ⟨e, he⟩ : ∃ e, (lookE c v.x)[k]? = some e := ⟨(lookE c v.x)[k]'(by simpa [lookE] using hlt), List.getElem?_eq_getElem _⟩
      have hc := (Keep.of_below HB.out (Nat.le_refl _) (fun _ => False)).cell (HCL.out k p hp) id
      have HR := Lib.hid (HR0.out.keep HB.out)
      have HCALL := Lib.hid (looks_any w wr c v H0 H1 HR.out (HIN.out.keep HR.out.below) k p e hp he HALL.out)
      have HE := Lib.hid he
      have hrun := looks_run H0 H1 p (List.mem_of_getElem? hp)
      clear hp he
      obtain ⟨g, cp⟩ := p
      go_wp2_with fail
      refine HCALL.out.mono ?_
      rintro r w2 ⟨rfl, hb2⟩
      have HB2 := Lib.hid (Below.next HB.out hb2)
      clear hb2 hc hrun HCALL
      by_cases h0 : e = 0
      · have HZ := Lib.hid (show ∀ j : Nat, j < k + 1 → (lookE c v.x)[j]? = some 0 from fun j hj => by
          rcases Nat.lt_succ_iff_lt_or_eq.1 hj with hj | rfl
          · exact HALL.out j hj
          · rw [HE.out, h0])
        have h1 : (e == 0) = true := by simp [h0]
        have h2 : (e != 0) = false := by simp [h0]
        clear h0
        go_wp2_with fail
        go_roundw
        case rel => exact Lib.hid ⟨k + 1, by go_num, by omega, HZ.out, HB2.out⟩
        case measure => simp [intOf]; omega
      · have HZ := Lib.hid ((lookE_first c v.x).symm.trans (firstE_at HE.out h0 HALL.out))
        have h1 : (e == 0) = false := by simp [h0]
        have h2 : (e != 0) = true := by simp [h0]
        clear h0
        go_wp2_with fail
        go_ret
        exact ⟨by rw [HZ.out]; rfl, Below.next HR0.out.below HB2.out⟩
    · obtain rfl : 6 = k := by omega
      have HZ := Lib.hid ((lookE_first c v.x).symm.trans (firstE_zero (l := lookE c v.x) (fun e he => by
        obtain ⟨j, hj, rfl⟩ := List.getElem_of_mem he
        have h1 := HALL.out j (by simpa [lookE] using hj)
        rw [List.getElem?_eq_getElem hj] at h1
        exact Option.some.inj h1)))
      go_wp2_with fail
      go_ret
      exact ⟨by rw [HZ.out]; rfl, Below.next HR0.out.below HB.out⟩
end Go.Proofs.YtcaicgipibcicaaGreat

/- How long a record is; Beyond, asked of one length. -/
namespace Go.Proofs.YtcaicgipibcicaaGreat
set_option maxRecDepth 100000
set_option linter.unusedVariables false
set_option linter.unusedSimpArgs false
open Go.RowKit Go.Sort

set_option maxHeartbeats 2000000 in
theorem beyond_one (w : World) (g : Nat) (n : Int) (hc : w.cell? ⟨g, 0, none⟩ = some (.int .i64 n)) (hn : i64ok n) :
    Calls Tryz.prog 10 #[.slice (some ⟨g, 0, none⟩) 1 1] w fun e w' => e = .returned (.bool (decide (1048576 < n))) ∧ w' = w := by
  obtain ⟨n1, n2⟩ := hn
  by_cases h : 1048576 < n
  · rw [decide_eq_true h]
    go_enter Tryz.func10, Tryz.ntmps10
    go_wp2_with fail
    refine wp_loop_rounds 2 ?_
    rw [rounds_succ]
    go_wp2_with fail
    go_ret
    exact ⟨rfl, rfl⟩
  · rw [decide_eq_false h]
    go_enter Tryz.func10, Tryz.ntmps10
    go_wp2_with fail
    refine wp_loop_rounds 2 ?_
    rw [rounds_succ]
    go_wp2_with fail
    rw [rounds_succ]
    go_wp2_with fail
    go_ret
    exact ⟨rfl, rfl⟩

def sizeN (v : RV) : Nat := 1 + v.wn + v.kn + v.en + v.pn + v.yn + v.zn
set_option maxHeartbeats 2000000 in
theorem recordSize_any (w : World) (v : RV) (h1 : v.wn ≤ 1000000000000000) (h2 : v.kn ≤ 1000000000000000) (h3 : v.en ≤ 1000000000000000) (h4 : v.pn ≤ 1000000000000000) (h5 : v.yn ≤ 1000000000000000) (h6 : v.zn ≤ 1000000000000000) :
    Calls Tryz.prog 11 #[.agg #[.int .i64 v.x.tick, .slice v.wo v.wn v.wc, .slice v.ko v.kn v.kc, .int .i64 v.x.rows, .int .i64 v.x.cols, .slice v.eo v.en v.ec, .slice v.po v.pn v.pc, .slice v.yo v.yn v.yc, .slice v.zo v.zn v.zc]] w fun e w' => e = .returned (.int .i64 (sizeN v)) ∧ Below w.heap.size w w' := by
  have HB := Lib.hid ((Below.refl w.heap.size w).alloc (Nat.le_refl _) (.cells #[.int .i64 v.x.tick, .slice v.wo v.wn v.wc, .slice v.ko v.kn v.kc, .int .i64 v.x.rows, .int .i64 v.x.cols, .slice v.eo v.en v.ec, .slice v.po v.pn v.pc, .slice v.yo v.yn v.yc, .slice v.zo v.zn v.zc] 34))
  go_enter Tryz.func11, Tryz.ntmps11
  go_wp2_with fail
  go_ret
  exact ⟨by show Ending.returned (.int .i64 _) = _; congr 2, HB.out⟩
end Go.Proofs.YtcaicgipibcicaaGreat

/- A whole struct, one opaque value: loaded in a region that only reads. No program in sight but for the api's structs. -/
namespace Go.Proofs.YtcaicgipibcicaaGreat
set_option maxRecDepth 100000
set_option linter.unusedVariables false
open Go.RowKit Go.Sort

section
variable {P : Program}
theorem quiet_load {o : Oper} {a : Act} {W : World} {K : Act → Prop} (ty : TypeId) (x : Operand) (ho : o.op = .load ty x)
    (b off : Nat) (hx : a.eval x = .pointer (some ⟨b, off, none⟩)) (cs : List Value) (V : Array Value) (hvs : cs.toArray = V) (d : TypeDesc) (hc : ∀ j u, cs[j]? = some u → W.cell? ⟨b, off + j, none⟩ = some u)
    (hu : P.underlying ty = some d) (hd : (match d with | .struct _ | .array _ _ => true | _ => false) = true) (hi : (P.info? ty).map (·.size) = some cs.length)
    (hk : K (a.put o.dst (.agg V))) : o.quiet P a (fun w' => ∃ n, w' = W.drewN n) K := by
  refine ⟨.agg V, ?_, hk⟩
  rintro w ⟨n, rfl⟩
  have h := run_loadVar_elem (P := P) (W.drewN n) b off ty cs d (fun j u hj => by have := hc j u hj; simpa using this) hu hd hi
  rw [hvs] at h
  unfold Oper.quietAt execOp
  simp only [ho, hx, Instr.loadAt, Instr.sureAddr, Sem.run_bind, Sem.run_pure, Result.andThen_ok, h]
  exact ⟨rfl, rfl⟩
/-- AT THE OPERATION, one that has a guard: an element is loaded. -/
theorem wpList_load_g {ops : Array Oper} {rest : List Oper} {o : Oper} {a : Act} {w : World} {Q : Exit → Act → World → Prop} (hw : Region.wanted o (yielded ops a.tmps) = true) (ty : TypeId) (x : Operand) (ho : o.op = .load ty x)
    (b off : Nat) (hx : a.eval x = .pointer (some ⟨b, off, none⟩)) (cs : List Value) (vs : Array Value) (hvs : cs.toArray = vs) (d : TypeDesc) (hc : ∀ j u, cs[j]? = some u → w.cell? ⟨b, off + j, none⟩ = some u)
    (hu : P.underlying ty = some d) (hd : (match d with | .struct _ | .array _ _ => true | _ => false) = true) (hi : (P.info? ty).map (·.size) = some cs.length)
    (h : wpList P ops Q rest (a.put o.dst (.agg vs)) w) : wpList P ops Q (o :: rest) a w :=
  BigFrame.wpList_want hw fun _ hK => wp_load_elem ty x ho b off hx cs d hc hu hd hi (hK _ _ (by rw [hvs]; exact h))
/-- A whole value goes into a block that is known whole: in a region that draws, and at the list of a plain one. -/
theorem wp_store_box {o : Oper} {a : Act} {w : World} {K : Act → World → Prop} {Q : Exit → Act → World → Prop} (ty : TypeId) (p x : Operand) (ho : o.op = .store ty p x) (H : Nat) (hp : a.eval p = .pointer (some ⟨H, 0, none⟩))
    (V : Array Value) (hx : a.eval x = .agg V) (Z : Array Value) (t : TypeId) (hb : w.heap[H]? = some (.cells Z t (0, 0))) (hs : Z.size = V.size) (hi : (P.info? ty).map (·.size) = some V.size) (h1 : V.all (·.oneCell') = true)
    (h : ∀ w', w'.rangeAt H 0 V.toList → Keep (fun k => k = H) w w' → K (a.put o.dst undef) w') : o.wp P a w K Q := by
  have ht : w.there H 0 V.size := fun j hj => by
    rw [Nat.zero_add]
    refine ⟨?_, frozen_of_row w H j Z t hb⟩
    rw [cell_of_row w H j Z t (0, 0) hb, Array.getElem?_eq_getElem (by omega)]
    rfl
  refine wp_store_mid ty p x ho H 0 V hp hx ht hi h1 (h _ (World.rangeAt_setCells_same w H 0 V.toList (by simpa using ht)) (Keep.setCells w H 0 V.toList))
theorem step_store_box {ops : Array Oper} {o : Oper} {a : Act} {w : World} {K : Act → World → Prop} {Q : Exit → Act → World → Prop} {E : Prop} (hg : o.guard = none) (ty : TypeId) (p x : Operand) (ho : o.op = .store ty p x) (H : Nat) (hp : a.eval p = .pointer (some ⟨H, 0, none⟩))
    (V : Array Value) (hx : a.eval x = .agg V) (Z : Array Value) (t : TypeId) (hb : w.heap[H]? = some (.cells Z t (0, 0))) (hs : Z.size = V.size) (hi : (P.info? ty).map (·.size) = some V.size) (h1 : V.all (·.oneCell') = true)
    (h : ∀ w', w'.rangeAt H 0 V.toList → Keep (fun k => k = H) w w' → K (a.put o.dst undef) w') : if Region.wanted o (yielded ops a.tmps) = true then Oper.wp P o a w K Q else E := by
  have hw : Region.wanted o (yielded ops a.tmps) = true := by simp [Region.wanted, hg]
  rw [if_pos hw]
  exact wp_store_box ty p x ho H hp V hx Z t hb hs hi h1 h
theorem wpList_store_box {ops : Array Oper} {rest : List Oper} {o : Oper} {a : Act} {w : World} {Q : Exit → Act → World → Prop} (hgd : o.guard = none) (ty : TypeId) (p x : Operand) (ho : o.op = .store ty p x) (H : Nat) (hp : a.eval p = .pointer (some ⟨H, 0, none⟩))
    (V : Array Value) (hx : a.eval x = .agg V) (Z : Array Value) (t : TypeId) (hb : w.heap[H]? = some (.cells Z t (0, 0))) (hs : Z.size = V.size) (hi : (P.info? ty).map (·.size) = some V.size) (h1 : V.all (·.oneCell') = true)
    (h : ∀ w', w'.rangeAt H 0 V.toList → Keep (fun k => k = H) w w' → wpList P ops Q rest (a.put o.dst undef) w') : wpList P ops Q (o :: rest) a w :=
  wpList_plain hgd fun _ hK => wp_store_box ty p x ho H hp V hx Z t hb hs hi h1 (fun w' h2 h3 => hK _ _ (h w' h2 h3))
end
end Go.Proofs.YtcaicgipibcicaaGreat
