/- Chapter 16 in the program: the graph of requests and drivers. -/
import Derived.Test.YtcaicgipibcicaaGreatQGraphE
import Derived.Test.YtcaicgipibcicaaGreatQPairs
import Derived.WalkMore
import Derived.Test.YtcaicgipibcicaaGreatQHeldTail
import Derived.Deep.RegionHeld3
namespace Go.Proofs.YtcaicgipibcicaaGreat
set_option maxRecDepth 100000
set_option linter.unusedVariables false
set_option linter.unusedSimpArgs false
open Go.RowKit Go.Sort

set_option maxHeartbeats 16000000 in
theorem wgraph_any (w : World) (c : PConf) (now : Int) (ao bo : Option Addr) (n m c' c'' : Nat) (ws : List PWait) (ds : List PIdle) (hnow : i64ok now) (hn : ws.length = n) (hm : ds.length = m) (hw : RdC w ao (cellsOf PWait.cells ws)) (hd : RdC w bo (cellsOf PIdle.cells ds))
    (how : ∀ x ∈ ws, x.Ok) (hod : ∀ x ∈ ds, x.Ok) (hn' : n ≤ 1048576) (hm' : m ≤ 1048576) :
    Calls Tryz.prog 85 #[.agg #[.int .i64 c.q, .int .i64 c.d, .int .i64 c.w, .int .i64 c.ttl, .int .i64 c.b], .int .i64 now, .slice ao n c', .slice bo m c''] w (GraphPost w c now ws ds) := by
  have HN := Lib.hid hn
  have HM := Lib.hid hm
  have HWR := Lib.hid hw
  have HDR := Lib.hid hd
  have HOW := Lib.hid how
  have HOD := Lib.hid hod
  have HNOW := Lib.hid hnow
  clear hn hm hw hd how hod hnow
  have HW := Lib.hid (GhRel.begin w c)
  go_enter Tryz.func85, Tryz.ntmps85
  go_upto_region 1 with fail
  generalize (w.alloc (.cells #[.int .i64 c.q, .int .i64 c.d, .int .i64 c.w, .int .i64 c.ttl, .int .i64 c.b] 23)).alloc (.cells #[.int .i64 0, .int .i64 0, .slice none 0 0] 28) = W at *
  have hH8 : w.heap.size ≤ w.heap.size + 1 := by omega
  have hne8 : w.heap.size < w.heap.size + 1 := by omega
  generalize w.heap.size + 1 = H8 at *
  have HHE := Lib.hid (show ∃ H0, w.heap.size = H0 from ⟨_, rfl⟩)
  obtain ⟨H0, hH0⟩ := HHE.out
  have H8L := Lib.hid hH8
  clear hH8
  rw [hH0] at HW hne8
  rw [hH0]
  have HH := Lib.hid hH0
  clear hH0 HHE
  go_wp2_with (first | ((with_reducible refine wpList_load_elem (o := ⟨some 20, _, _, _, _, _⟩) ?_ 23 (.tmp 4) ?_ H0 (0) ?_ c.cells #[.int .i64 c.q, .int .i64 c.d, .int .i64 c.w, .int .i64 c.ttl, .int .i64 c.b] ?_ _ (conf_whole HW.out.g) Tryz.underlying23 ?_ ?_ ?_); rfl; rfl; rfl; rfl; rfl; exact sz_conf))
  refine (config_any W c).mono ?_
  rintro e w1 ⟨rfl, hb1⟩
  have HW1 := Lib.hid (HW.out.keep hb1)
  clear hb1 HW
  obtain ⟨r0, r1, r2, rf⟩ := cells3 HW1.out.r
  cases hc : configF c with
  | false =>
    have HE := Lib.hid (buildE_1 (now := now) (ws := ws) (ds := ds) hc)
    rw [show configE c = 160 by simp [configE, hc]]
    clear hc
    have HBW := Lib.hid (HW1.out.write H8L.out (.int .i64 0) (.int .i64 0) (.slice none 0 0))
    have HQ := Lib.hid (graph_wrote HW1.out.r (.int .i64 0) (.int .i64 0) (.slice none 0 0))
    go_wp2_with fail
    generalize ((w1.setCell ⟨H8, 0, none⟩ (.int .i64 0)).setCell ⟨H8, 1, none⟩ (.int .i64 0)).setCell ⟨H8, 2, none⟩ (.slice none 0 0) = WF at *
    obtain ⟨q0, q1, q2⟩ := HQ.out
    exact bodyPost_ret (v := .tuple #[.agg #[.int .i64 0, .int .i64 0, .slice none 0 0], .int .i64 160]) (by simp [results, Tryz.results85, go_sem, q0, q1, q2]) rfl (GraphPost.no HE.out (by omega) HBW.out)
  | true =>
    have HC := Lib.hid hc
    rw [show configE c = 0 by simp [configE, hc]]
    clear hc
    go_wp2_with fail
    refine (tick_any w1 now).mono ?_
    rintro e w2 ⟨rfl, rfl⟩
    cases ht : tickF now with
    | false =>
      have HE := Lib.hid (buildE_2 (ws := ws) (ds := ds) HC.out ht)
      clear ht
      have HBW := Lib.hid (HW1.out.write H8L.out (.int .i64 0) (.int .i64 0) (.slice none 0 0))
      have HQ := Lib.hid (graph_wrote HW1.out.r (.int .i64 0) (.int .i64 0) (.slice none 0 0))
      go_wp2_with fail
      generalize ((w1.setCell ⟨H8, 0, none⟩ (.int .i64 0)).setCell ⟨H8, 1, none⟩ (.int .i64 0)).setCell ⟨H8, 2, none⟩ (.slice none 0 0) = WF at *
      obtain ⟨q0, q1, q2⟩ := HQ.out
      exact bodyPost_ret (v := .tuple #[.agg #[.int .i64 0, .int .i64 0, .slice none 0 0], .int .i64 1]) (by simp [results, Tryz.results85, go_sem, q0, q1, q2]) rfl (GraphPost.no HE.out (by omega) HBW.out)
    | true =>
      have HT := Lib.hid ht
      clear ht
      have hsz : (64 < n ∨ (n ≤ 64 ∧ 64 < m)) ∨ (n ≤ 64 ∧ m ≤ 64) := by omega
      rcases hsz with h | ⟨h1, h2⟩
      · have HE := Lib.hid (buildE_3 (ws := ws) (ds := ds) HC.out HT.out (by rw [HN.out, HM.out]; omega))
        rcases h with h1 | ⟨h1, h2⟩
        all_goals
          have HBW := Lib.hid (HW1.out.write H8L.out (.int .i64 0) (.int .i64 0) (.slice none 0 0))
          have HQ := Lib.hid (graph_wrote HW1.out.r (.int .i64 0) (.int .i64 0) (.slice none 0 0))
          go_wp2_with fail
          generalize ((w1.setCell ⟨H8, 0, none⟩ (.int .i64 0)).setCell ⟨H8, 1, none⟩ (.int .i64 0)).setCell ⟨H8, 2, none⟩ (.slice none 0 0) = WF at *
          obtain ⟨q0, q1, q2⟩ := HQ.out
          exact bodyPost_ret (v := .tuple #[.agg #[.int .i64 0, .int .i64 0, .slice none 0 0], .int .i64 3]) (by simp [results, Tryz.results85, go_sem, q0, q1, q2]) rfl (GraphPost.no HE.out (by omega) HBW.out)
      have HSZ := Lib.hid (show ¬ (64 < ws.length ∨ 64 < ds.length) by rw [HN.out, HM.out]; omega)
      obtain ⟨i6, hi6, hz60, hz61, hz62⟩ := infos info_int
      have hmk : ∀ wx : World, (Instr.makeSlice 30 (.int .i64 n) (.int .i64 n)).run Tryz.prog wx = .ok (.slice (some ⟨wx.heap.size, 0, none⟩) n n) (wx.alloc (.cells (Array.replicate n (Value.int .i64 0)) 3)) := fun wx => by
        have h := run_make (P := Tryz.prog) wx 30 3 i6 (.int .i64 0) Tryz.underlying30 hi6 hz60 .i64 .i64 (n : Int) (n : Int) (by omega) (by omega) (by rw [hz62]; omega) (by omega)
        simp only [Int.toNat_natCast] at h
        rw [h]
        have hc : madeCells (Value.int .i64 0).cells (n * i6.size) = (Array.replicate n (Value.int .i64 0)) := by
          apply Array.ext
          · rw [size_madeCells, hz61]; simp
          · intro j h1 h2
            simp [madeCells, Value.cells, Nat.mod_one]
        rw [hc]
      have HG := Lib.hid (show GhRel w c H0 H8 (w1.alloc (.cells (Array.replicate n (Value.int .i64 0)) 3)) ∧ Row (w1.alloc (.cells (Array.replicate n (Value.int .i64 0)) 3)) w1.heap.size n 1 (wtsF c now ws n 0) from
        ⟨HW1.out.one _, Row.made w1 _ 3 (0, 0) n 1 _ (by simp) (.inl rfl) (fun j u hu => by rw [wtsF_zero] at hu; simpa [Array.getElem?_replicate, List.getElem?_replicate] using hu)⟩)
      have hH8G : H8 < w1.heap.size := lt_of_block HW1.out.r
      go_wp2_with fail
      generalize w1.alloc (.cells (Array.replicate n (Value.int .i64 0)) 3) = W2 at *
      clear hmk r0 r1 r2 rf hi6 hz60 hz61 hz62
      generalize w1.heap.size = G at *
      go_loopw [45] (fun i wr => Hid (∃ k : Nat, i = .int .i64 k ∧ k ≤ n ∧ (∀ (j : Nat) (y : PWait), j < k → ws[j]? = some y → (wtP c now y).2 = 0) ∧ GhRel w c H0 H8 wr ∧ Row wr G n 1 (wtsF c now ws n k))) (fun i _ => n - (intOf i).toNat)
      case atStart => exact Lib.hid ⟨0, rfl, Nat.zero_le _, fun j y h => absurd h (Nat.not_lt_zero j), HG.out.1, HG.out.2⟩
      case round =>
        obtain ⟨k, rfl, hk, hall, hgh, hrow⟩ := hrel.out
        clear hrel
        have HALL := Lib.hid hall
        have HR1 := Lib.hid hgh
        have HROW := Lib.hid hrow
        clear hall hgh hrow
        by_cases hlt : k < n
        · obtain ⟨x, hx⟩ : ∃ x, ws[k]? = some x := ⟨ws[k]'(by rw [HN.out]; exact hlt), List.getElem?_eq_getElem _⟩
          obtain ⟨b, o, rfl, _⟩ := HWR.out.place (by rw [cellsOf_length _ 18 PWait.cells_length, HN.out]; omega)
          have HCE := Lib.hid (wait_cells_at (HWR.out.below HR1.out.below) hx)
          have HX := Lib.hid hx
          have HXO := Lib.hid (HOW.out x (List.mem_of_getElem? hx))
          clear hx
          go_wp2_with (first | ((with_reducible refine wpList_load_elem (o := ⟨some 49, _, _, _, _, _⟩) ?_ 79 (.tmp 48) ?_ b (o + k * 18) ?_ x.cells #[.int .u8 x.r.i0, .int .u8 x.r.i1, .int .u8 x.r.i2, .int .u8 x.r.i3, .int .u8 x.r.i4, .int .u8 x.r.i5, .int .u8 x.r.i6, .int .u8 x.r.i7, .int .i16 x.r.fx, .int .i16 x.r.fy, .int .i16 x.r.tx, .int .i16 x.r.ty, .int .u8 x.r.seats, .int .u8 x.r.classes, .int .i64 x.r.base, .int .i64 x.r.ttl, .int .i64 x.since, .int .i64 x.number] ?_ _ HCE.out Tryz.underlying79 ?_ ?_ ?_); rfl; rfl; rfl; rfl; rfl; exact sz_wait) | ((with_reducible refine wpList_store_new (o := ⟨none, .store 79 (.tmp 13) (.tmp 49), _, _, _, _⟩) ?_ 79 (.tmp 13) (.tmp 49) ?_ _ #[.int .u8 x.r.i0, .int .u8 x.r.i1, .int .u8 x.r.i2, .int .u8 x.r.i3, .int .u8 x.r.i4, .int .u8 x.r.i5, .int .u8 x.r.i6, .int .u8 x.r.i7, .int .i16 x.r.fx, .int .i16 x.r.fy, .int .i16 x.r.tx, .int .i16 x.r.ty, .int .u8 x.r.seats, .int .u8 x.r.classes, .int .i64 x.r.base, .int .i64 x.r.ttl, .int .i64 x.since, .int .i64 x.number] ?_ ?_ x.cells ?_ ?_ ?_ x.cells_one ?_); rfl; rfl; rfl; rfl; rfl; exact sz_wait; rfl) | ((with_reducible refine wpList_load_elem (o := ⟨some 53, _, _, _, _, _⟩) ?_ 23 (.tmp 4) ?_ H0 (0) ?_ c.cells #[.int .i64 c.q, .int .i64 c.d, .int .i64 c.w, .int .i64 c.ttl, .int .i64 c.b] ?_ _ (conf_whole (HR1.out.one _).g) Tryz.underlying23 ?_ ?_ ?_); rfl; rfl; rfl; rfl; rfl; exact sz_conf) | ((with_reducible refine wpList_load_elem (o := ⟨some 55, _, _, _, _, _⟩) ?_ 79 (.tmp 13) ?_ wr.heap.size (0) ?_ x.cells #[.int .u8 x.r.i0, .int .u8 x.r.i1, .int .u8 x.r.i2, .int .u8 x.r.i3, .int .u8 x.r.i4, .int .u8 x.r.i5, .int .u8 x.r.i6, .int .u8 x.r.i7, .int .i16 x.r.fx, .int .i16 x.r.fy, .int .i16 x.r.tx, .int .i16 x.r.ty, .int .u8 x.r.seats, .int .u8 x.r.classes, .int .i64 x.r.base, .int .i64 x.r.ttl, .int .i64 x.since, .int .i64 x.number] ?_ _ (wait_whole (heap_alloc_new wr _)) Tryz.underlying79 ?_ ?_ ?_); rfl; rfl; rfl; rfl; rfl; exact sz_wait))
          have HR2 := Lib.hid (HR1.out.one (.cells #[.int .u8 x.r.i0, .int .u8 x.r.i1, .int .u8 x.r.i2, .int .u8 x.r.i3, .int .u8 x.r.i4, .int .u8 x.r.i5, .int .u8 x.r.i6, .int .u8 x.r.i7, .int .i16 x.r.fx, .int .i16 x.r.fy, .int .i16 x.r.tx, .int .i16 x.r.ty, .int .u8 x.r.seats, .int .u8 x.r.classes, .int .i64 x.r.base, .int .i64 x.r.ttl, .int .i64 x.since, .int .i64 x.number] 79))
          have HROW2 := Lib.hid (HROW.out.keep (Keep.alloc (fun _ => False) wr (.cells #[.int .u8 x.r.i0, .int .u8 x.r.i1, .int .u8 x.r.i2, .int .u8 x.r.i3, .int .u8 x.r.i4, .int .u8 x.r.i5, .int .u8 x.r.i6, .int .u8 x.r.i7, .int .i16 x.r.fx, .int .i16 x.r.fy, .int .i16 x.r.tx, .int .i16 x.r.ty, .int .u8 x.r.seats, .int .u8 x.r.classes, .int .i64 x.r.base, .int .i64 x.r.ttl, .int .i64 x.since, .int .i64 x.number] 79)) id)
          generalize wr.alloc (.cells #[.int .u8 x.r.i0, .int .u8 x.r.i1, .int .u8 x.r.i2, .int .u8 x.r.i3, .int .u8 x.r.i4, .int .u8 x.r.i5, .int .u8 x.r.i6, .int .u8 x.r.i7, .int .i16 x.r.fx, .int .i16 x.r.fy, .int .i16 x.r.tx, .int .i16 x.r.ty, .int .u8 x.r.seats, .int .u8 x.r.classes, .int .i64 x.r.base, .int .i64 x.r.ttl, .int .i64 x.since, .int .i64 x.number] 79) = W3 at *
          refine (weight_p W3 c now x HXO.out HNOW.out).mono ?_
          rintro e w4 ⟨rfl, hb4⟩
          have HR4 := Lib.hid (HR2.out.keep hb4)
          have HROW4 := Lib.hid (HROW2.out.keep (Keep.of_below hb4 (Nat.le_refl _) (fun _ => False)) id)
          clear hb4 HR1 HR2 HROW HROW2 HCE HXO
          have hc0 : w4.cell? ⟨G, k, none⟩ = some (.int .i64 0) := HROW4.out.cell k _ (wtsF_room HN.out hlt)
          have hf0 : w4.frozen? ⟨G, k, none⟩ = false := HROW4.out.free k (by omega)
          have HR5 := Lib.hid (HR4.out.set hne8 hH8G H8L.out k (.int .i64 (wtP c now x).1))
          have HROW5 := Lib.hid (HROW4.out.set k (.int .i64 (wtP c now x).1) (by omega))
          rw [← wtsF_next HN.out HX.out] at HROW5
          obtain ⟨A, E, hAE⟩ : ∃ A E, wtP c now x = (A, E) := ⟨_, _, rfl⟩
          rw [hAE] at HR5 HROW5 ⊢
          have HAE := Lib.hid hAE
          clear hAE HR4 HROW4
          by_cases h0 : E = 0
          · have HA := Lib.hid (show ∀ (j : Nat) (y : PWait), j < k + 1 → ws[j]? = some y → (wtP c now y).2 = 0 from fun j y hj hy => by
              rcases Nat.lt_succ_iff_lt_or_eq.1 hj with hj | rfl
              · exact HALL.out j y hj hy
              · rw [HX.out] at hy; cases hy; rw [HAE.out]; exact h0)
            have e1 : (E == 0) = true := by simp [h0]
            have e2 : (E != 0) = false := by simp [h0]
            clear h0
            go_wp2_with fail
            go_roundw
            case rel => exact Lib.hid ⟨k + 1, by go_num, by omega, HA.out, HR5.out, HROW5.out⟩
            case measure => simp [intOf]; omega
          · have HE := Lib.hid (show buildE c now ws ds = E by
              have h1 := weighE_at HX.out (by rw [HAE.out]; exact h0) HALL.out
              rw [HAE.out] at h1
              rw [buildE_4 HC.out HT.out HSZ.out (by rw [h1]; exact h0), h1])
            have HE0 := Lib.hid h0
            have e1 : (E == 0) = false := by simp [h0]
            have e2 : (E != 0) = true := by simp [h0]
            clear h0
            obtain ⟨r0, r1, r2, rf⟩ := cells3 HR5.out.r
            have HR6 := Lib.hid (show GhRel w c H0 H8 (w4.setCell ⟨G, k, none⟩ (.int .i64 A)) from HR5.out)
            go_upto_region 15 with fail
            generalize w4.setCell ⟨G, k, none⟩ (.int .i64 A) = W5 at *
            have HBW := Lib.hid (HR6.out.write H8L.out (.int .i64 0) (.int .i64 0) (.slice none 0 0))
            have HQ := Lib.hid (graph_wrote HR6.out.r (.int .i64 0) (.int .i64 0) (.slice none 0 0))
            go_wp2_with fail
            generalize ((W5.setCell ⟨H8, 0, none⟩ (.int .i64 0)).setCell ⟨H8, 1, none⟩ (.int .i64 0)).setCell ⟨H8, 2, none⟩ (.slice none 0 0) = WF at *
            obtain ⟨q0, q1, q2⟩ := HQ.out
            exact bodyPost_ret (v := .tuple #[.agg #[.int .i64 0, .int .i64 0, .slice none 0 0], .int .i64 E]) (by simp [results, Tryz.results85, go_sem, q0, q1, q2]) rfl (GraphPost.no HE.out HE0.out HBW.out)
        · obtain rfl : n = k := by omega
          have HWE := Lib.hid (weighE_zero (c := c) (now := now) (l := ws) (fun j y hy => HALL.out j y (by rw [← HN.out]; exact (List.getElem?_eq_some_iff.1 hy).1) hy))
          have HBE := Lib.hid (buildE_5 (ds := ds) HC.out HT.out HSZ.out HWE.out)
          clear HALL hlt hk
          as_aux_lemma =>
            go_wp2_with fail
            go_loopw [67] (fun i wr => Hid (∃ k : Nat, i = .int .i64 k ∧ k ≤ m ∧ (∀ (j : Nat) (y : PIdle), j < k → ds[j]? = some y → driverE y.d = 0) ∧ GhRel w c H0 H8 wr ∧ Row wr G n 1 (wtsF c now ws n n))) (fun i _ => m - (intOf i).toNat)
            case atStart => exact Lib.hid ⟨0, rfl, Nat.zero_le _, fun j y h => absurd h (Nat.not_lt_zero j), HR1.out, HROW.out⟩
            case round =>
              obtain ⟨k, rfl, hk, hall, hgh, hrow⟩ := hrel.out
              clear hrel
              have HALL := Lib.hid hall
              have HR1 := Lib.hid hgh
              have HROW := Lib.hid hrow
              clear hall hgh hrow
              by_cases hlt : k < m
              · obtain ⟨x, hx⟩ : ∃ x, ds[k]? = some x := ⟨ds[k]'(by rw [HM.out]; exact hlt), List.getElem?_eq_getElem _⟩
                obtain ⟨b, o, rfl, _⟩ := HDR.out.place (by rw [cellsOf_length _ 14 PIdle.cells_length, HM.out]; omega)
                have HCE := Lib.hid (idle_cells_at (HDR.out.below HR1.out.below) hx)
                have HX := Lib.hid hx
                have HXO := Lib.hid (HOD.out x (List.mem_of_getElem? hx))
                clear hx
                go_wp2_with (first | ((with_reducible refine wpList_load_elem (o := ⟨some 70, _, _, _, _, _⟩) ?_ 83 (.tmp 69) ?_ b (o + k * 14) ?_ x.cells #[.int .u8 x.d.i0, .int .u8 x.d.i1, .int .u8 x.d.i2, .int .u8 x.d.i3, .int .u8 x.d.i4, .int .u8 x.d.i5, .int .u8 x.d.i6, .int .u8 x.d.i7, .int .i16 x.d.ax, .int .i16 x.d.ay, .int .u8 x.d.seats, .int .u8 x.d.cls, .int .i64 x.d.radius, .int .i64 x.number] ?_ _ HCE.out Tryz.underlying83 ?_ ?_ ?_); rfl; rfl; rfl; rfl; rfl; exact sz_idle) | ((with_reducible refine wpList_store_new (o := ⟨none, .store 83 (.tmp 15) (.tmp 70), _, _, _, _⟩) ?_ 83 (.tmp 15) (.tmp 70) ?_ _ #[.int .u8 x.d.i0, .int .u8 x.d.i1, .int .u8 x.d.i2, .int .u8 x.d.i3, .int .u8 x.d.i4, .int .u8 x.d.i5, .int .u8 x.d.i6, .int .u8 x.d.i7, .int .i16 x.d.ax, .int .i16 x.d.ay, .int .u8 x.d.seats, .int .u8 x.d.cls, .int .i64 x.d.radius, .int .i64 x.number] ?_ ?_ x.cells ?_ ?_ ?_ x.cells_one ?_); rfl; rfl; rfl; rfl; rfl; exact sz_idle; rfl) | ((with_reducible refine wpList_load_elem (o := ⟨some 72, _, _, _, _, _⟩) ?_ 81 (.tmp 71) ?_ wr.heap.size (0) ?_ x.d.cells #[.int .u8 x.d.i0, .int .u8 x.d.i1, .int .u8 x.d.i2, .int .u8 x.d.i3, .int .u8 x.d.i4, .int .u8 x.d.i5, .int .u8 x.d.i6, .int .u8 x.d.i7, .int .i16 x.d.ax, .int .i16 x.d.ay, .int .u8 x.d.seats, .int .u8 x.d.cls, .int .i64 x.d.radius] ?_ _ (idle_head (heap_alloc_new wr _)) Tryz.underlying81 ?_ ?_ ?_); rfl; rfl; rfl; rfl; rfl; exact sz_drv))
                have HR2 := Lib.hid (HR1.out.one (.cells #[.int .u8 x.d.i0, .int .u8 x.d.i1, .int .u8 x.d.i2, .int .u8 x.d.i3, .int .u8 x.d.i4, .int .u8 x.d.i5, .int .u8 x.d.i6, .int .u8 x.d.i7, .int .i16 x.d.ax, .int .i16 x.d.ay, .int .u8 x.d.seats, .int .u8 x.d.cls, .int .i64 x.d.radius, .int .i64 x.number] 83))
                have HROW2 := Lib.hid (HROW.out.keep (Keep.alloc (fun _ => False) wr (.cells #[.int .u8 x.d.i0, .int .u8 x.d.i1, .int .u8 x.d.i2, .int .u8 x.d.i3, .int .u8 x.d.i4, .int .u8 x.d.i5, .int .u8 x.d.i6, .int .u8 x.d.i7, .int .i16 x.d.ax, .int .i16 x.d.ay, .int .u8 x.d.seats, .int .u8 x.d.cls, .int .i64 x.d.radius, .int .i64 x.number] 83)) id)
                generalize wr.alloc (.cells #[.int .u8 x.d.i0, .int .u8 x.d.i1, .int .u8 x.d.i2, .int .u8 x.d.i3, .int .u8 x.d.i4, .int .u8 x.d.i5, .int .u8 x.d.i6, .int .u8 x.d.i7, .int .i16 x.d.ax, .int .i16 x.d.ay, .int .u8 x.d.seats, .int .u8 x.d.cls, .int .i64 x.d.radius, .int .i64 x.number] 83) = W3 at *
                refine (driver_any W3 x.d).mono ?_
                rintro e w4 ⟨rfl, hb4⟩
                have HR4 := Lib.hid (HR2.out.keep hb4)
                have HROW4 := Lib.hid (HROW2.out.keep (Keep.of_below hb4 (Nat.le_refl _) (fun _ => False)) id)
                clear hb4 HR1 HR2 HROW HROW2 HCE HXO
                obtain ⟨E, hE⟩ : ∃ E, driverE x.d = E := ⟨_, rfl⟩
                rw [hE]
                have HEE := Lib.hid hE
                clear hE
                by_cases h0 : E = 0
                · have HA := Lib.hid (show ∀ (j : Nat) (y : PIdle), j < k + 1 → ds[j]? = some y → driverE y.d = 0 from fun j y hj hy => by
                    rcases Nat.lt_succ_iff_lt_or_eq.1 hj with hj | rfl
                    · exact HALL.out j y hj hy
                    · rw [HX.out] at hy; cases hy; rw [HEE.out]; exact h0)
                  have e1 : (E == 0) = true := by simp [h0]
                  have e2 : (E != 0) = false := by simp [h0]
                  clear h0
                  go_wp2_with fail
                  go_roundw
                  case rel => exact Lib.hid ⟨k + 1, by go_num, by omega, HA.out, HR4.out, HROW4.out⟩
                  case measure => simp [intOf]; omega
                · have HE := Lib.hid (show buildE c now ws ds = E by
                    have h1 := driversE_at HX.out (by rw [HEE.out]; exact h0) HALL.out
                    rw [HBE.out, h1, HEE.out])
                  have HE0 := Lib.hid h0
                  have e1 : (E == 0) = false := by simp [h0]
                  have e2 : (E != 0) = true := by simp [h0]
                  clear h0
                  obtain ⟨r0, r1, r2, rf⟩ := cells3 HR4.out.r
                  have HBW := Lib.hid (HR4.out.write H8L.out (.int .i64 0) (.int .i64 0) (.slice none 0 0))
                  have HQ := Lib.hid (graph_wrote HR4.out.r (.int .i64 0) (.int .i64 0) (.slice none 0 0))
                  go_wp2_with fail
                  generalize ((w4.setCell ⟨H8, 0, none⟩ (.int .i64 0)).setCell ⟨H8, 1, none⟩ (.int .i64 0)).setCell ⟨H8, 2, none⟩ (.slice none 0 0) = WF at *
                  obtain ⟨q0, q1, q2⟩ := HQ.out
                  exact bodyPost_ret (v := .tuple #[.agg #[.int .i64 0, .int .i64 0, .slice none 0 0], .int .i64 E]) (by simp [results, Tryz.results85, go_sem, q0, q1, q2]) rfl (GraphPost.no HE.out HE0.out HBW.out)
              · obtain rfl : m = k := by omega
                have HE := Lib.hid (show buildE c now ws ds = 0 by rw [HBE.out]; exact driversE_zero (fun j y hy => HALL.out j y (by rw [← HM.out]; exact (List.getElem?_eq_some_iff.1 hy).1) hy))
                clear HALL hlt hk HBE
                as_aux_lemma =>
                  have HR9 := Lib.hid (HR1.out.one (.cells #[.int .i64 n, .int .i64 m, .slice none 0 0] 28))
                  have HROW9 := Lib.hid (HROW.out.keep (Keep.alloc (fun _ => False) wr (.cells #[.int .i64 n, .int .i64 m, .slice none 0 0] 28)) id)
                  have HBOX := Lib.hid (heap_alloc_new wr (.cells #[.int .i64 n, .int .i64 m, .slice none 0 0] 28))
                  have hG9 : G < wr.heap.size := HROW.out.lt
                  have HW9 := Lib.hid HR1.out.below.size
                  go_wp2_with fail
                  generalize wr.alloc (.cells #[.int .i64 n, .int .i64 m, .slice none 0 0] 28) = W9 at *
                  generalize wr.heap.size = H9 at *
                  refine (pairs_any W9 ao bo n m c' c'' ws ds HN.out HM.out (HWR.out.below HR9.out.below) (HDR.out.below HR9.out.below) HOW.out HOD.out hn' hm').mono ?_
                  rintro e w3 ⟨pv, rfl, hpg⟩
                  obtain ⟨po, pcap, rfl, hprd⟩ := hpg.shape
                  have HR3 := Lib.hid (HR9.out.keep hpg.below)
                  have HROW3 := Lib.hid (HROW9.out.keep (Keep.of_below hpg.below (Nat.le_refl _) (fun _ => False)) id)
                  have HED := Lib.hid (EdRel.begin ((Keep.of_below hpg.below (Nat.le_refl _) (fun _ => False)).old HBOX.out id))
                  have HNB := Lib.hid (show ∀ p ∈ pairsF ws ds, 0 ≤ p.r ∧ p.r < n ∧ 0 ≤ p.c ∧ p.c < m from fun p hp => by have := pairsF_in hp; rw [HN.out, HM.out] at this; exact this)
                  have HPR := Lib.hid hprd
                  have HPB := Lib.hid (show ∀ b o, po = some ⟨b, o, none⟩ → 0 < (pairsF ws ds).length → b ≠ H9 from fun b o h hl he => by
                    rcases hpg.own.2 with ⟨h1, h2⟩ | ⟨g, cap, h1, _⟩
                    · omega
                    · cases h1
                      cases h
                      have h3 : W9.heap.size ≤ b := hpg.new b rfl
                      have := lt_of_block HBOX.out
                      omega)
                  have hlen : (pairsF ws ds).length ≤ 4096 := by
                    have k1 := pairsF_len ws ds
                    have k2 : ws.length * ds.length ≤ 64 * 64 := Nat.mul_le_mul (by rw [HN.out]; exact h1) (by rw [HM.out]; exact h2)
                    omega
                  obtain ⟨q, hq⟩ : ∃ q, (pairsF ws ds).length = q := ⟨_, rfl⟩
                  rw [hq] at hlen HPB ⊢
                  have HQL := Lib.hid hq
                  clear hprd hpg hq HR9 HROW9 HBOX HR1 HROW
                  obtain ⟨i5, hi, hz0, hz1, hz2⟩ := infos info_edge
                  go_wp2_with fail
                  go_loopw [88] (fun i wr => Hid (∃ (k : Nat) (ev : Value), i = .int .i64 k ∧ k ≤ q ∧ EdRel w3 n m (((pairsF ws ds).take k).map (edgeOf c now ws)) ev H9 wr)) (fun i _ => q - (intOf i).toNat)
                  case atStart => exact Lib.hid ⟨0, .slice none 0 0, rfl, Nat.zero_le _, HED.out⟩
                  case round =>
                    obtain ⟨k, ev, rfl, hk, hed⟩ := hrel.out
                    clear hrel
                    have HED1 := Lib.hid hed
                    clear hed
                    by_cases hlt : k < q
                    · obtain ⟨p, hp⟩ : ∃ p, (pairsF ws ds)[k]? = some p := ⟨(pairsF ws ds)[k]'(by rw [HQL.out]; exact hlt), List.getElem?_eq_getElem _⟩
                      obtain ⟨b, o, rfl, _⟩ := HPR.out.place (by rw [cellsOf_length _ 2 PPair.cells_length, HQL.out]; omega)
                      obtain ⟨p0, p1⟩ := pair_at (HPR.out.keep HED1.out.keep (fun b' o' h => HPB.out b' o' h (by omega))) hp
                      obtain ⟨v1, v2, v3, v4⟩ := HNB.out p (List.mem_of_getElem? hp)
                      obtain ⟨x, hx⟩ : ∃ x, ws[p.r.toNat]? = some x := ⟨ws[p.r.toNat]'(by rw [HN.out]; omega), List.getElem?_eq_getElem _⟩
                      have HEO := Lib.hid (edgeOf_at (c := c) (now := now) hx)
                      have hwc : wr.cell? ⟨G, p.r.toNat, none⟩ = some (.int .i64 (wtP c now x).1) := (HROW3.out.keep HED1.out.keep (by omega)).cell _ _ (wtsF_at HN.out hx)
                      have HNEXT := Lib.hid (take_map_next (f := edgeOf c now ws) hp)
                      obtain ⟨g0, g1, g2, gf⟩ := cells3 HED1.out.box
                      have hH9 : H9 < wr.heap.size := Nat.lt_of_lt_of_le HED1.out.lt HED1.out.keep.size
                      have hb0 : b < wr.heap.size := World.block_lt_of_cell? wr _ p0
                      have hGw : G < wr.heap.size := by omega
                      have hLl : (((pairsF ws ds).take k).map (edgeOf c now ws)).length ≤ 4096 := by rw [List.length_map, List.length_take]; omega
                      clear hp hx
                      generalize (wtP c now x).1 = wt at *
                      obtain ⟨L, hL⟩ : ∃ L, ((pairsF ws ds).take k).map (edgeOf c now ws) = L := ⟨_, rfl⟩
                      rw [hL] at HED1 HNEXT hLl
                      clear hL
                      go_wp2_with fail
                      have HWY := Lib.hid (Keep.alloc (fun _ => False) wr (.cells #[.int .i64 p.r, .int .i64 p.c] 69))
                      have y0 : (wr.alloc (.cells #[.int .i64 p.r, .int .i64 p.c] 69)).cell? ⟨wr.heap.size, 0, none⟩ = some (.int .i64 p.r) := by go_simp
                      have y1 : (wr.alloc (.cells #[.int .i64 p.r, .int .i64 p.c] 69)).cell? ⟨wr.heap.size, 1, none⟩ = some (.int .i64 p.c) := by go_simp
                      have y2 := HWY.out.cell g2 id
                      have y3 := HWY.out.cell hwc id
                      have HEY := Lib.hid (HED1.out.past HWY.out)
                      clear g0 g1 g2 gf hwc p0 p1
                      generalize wr.alloc (.cells #[.int .i64 p.r, .int .i64 p.c] 69) = WY at *
                      have hHY : H9 < WY.heap.size := by have := HWY.out.size; omega
                      have hPY : wr.heap.size < WY.heap.size := World.block_lt_of_cell? WY _ y0
                      have hGY : G < WY.heap.size := by omega
                      obtain ⟨HP, hHPe⟩ : ∃ HP, wr.heap.size = HP := ⟨_, rfl⟩
                      rw [hHPe] at y0 y1 hPY ⊢
                      have HHP := Lib.hid hHPe
                      clear hHPe
                      have HNO := Lib.hid (show ∀ b, (b < w3.heap.size ∨ HP ≤ b) → ¬ ev.ownBlock = some b from fun b hb he => by
                        have k1 := HED1.out.new b he
                        have k2 := HED1.out.own.lt b he
                        have k3 := HHP.out
                        omega)
                      have n1 := World.new_ne WY _ y2
                      have n2 := World.new_ne WY _ y0
                      have n3 := World.new_ne WY _ y1
                      have n4 := World.new_ne WY _ y3
                      have hneP : HP ≠ H9 := by have := HHP.out; omega
                      have hneG : G ≠ H9 := by omega
                      have HYS := Lib.hid (show (⟨H9, 2, none⟩ : Addr).block < w3.heap.size ∧ G < w3.heap.size from ⟨HED1.out.lt, HROW3.out.lt⟩)
                      have HPK := Lib.hid (fun (w' : World) (hk : Keep (fun _ => False) WY w') => show w'.cell? ⟨H9, 2, none⟩ = some ev ∧ w'.cell? ⟨HP, 0, none⟩ = some (.int .i64 p.r) ∧ w'.cell? ⟨HP, 1, none⟩ = some (.int .i64 p.c) ∧ w'.cell? ⟨G, p.r.toNat, none⟩ = some (.int .i64 wt) from ⟨hk.cell y2 id, hk.cell y0 id, hk.cell y1 id, hk.cell y3 id⟩)
                      clear y0 y1 y2 y3 n1 n2 n3 n4
                      refine wp_region_reads 12 (fun w' => w'.cell? ⟨H9, 2, none⟩ = some ev ∧ w'.cell? ⟨HP, 0, none⟩ = some (.int .i64 p.r) ∧ w'.cell? ⟨HP, 1, none⟩ = some (.int .i64 p.c) ∧ w'.cell? ⟨G, p.r.toNat, none⟩ = some (.int .i64 wt)) (by kernel_rfl) (by kernel_rfl) (fun _ _ _ _ _ h => h) (HPK.out _ (Keep.drew _ _)) ?_
                      simp only [List.take_succ_cons, List.take_zero, List.drop_succ_cons, List.drop_zero]
                      iterate 12 (
                        refine wpReads_cons (v := ?_) (Or.inl ⟨by rfl, ?_⟩) ?_
                        rotate_left
                        · intro w' hSw
                          try dsimp only at hSw
                          go_simp
                          try with_reducible rfl
                        try simp only [Act.put, List.setIfInBounds_toArray, List.set_cons_zero, List.set_cons_succ])
                      refine wpReads_nil ?_
                      refine wpOp_here rfl (fun K hK => ?_)
                      go_simp
                      refine hK _ _ ⟨by first | exact HPK.out _ (Keep.of_below ((Below.refl WY.heap.size WY).alloc (Nat.le_refl _) _) (Nat.le_refl _) _) | exact HPK.out _ (Keep.of_below (((Below.refl WY.heap.size WY).alloc (Nat.le_refl _) _).drew) (Nat.le_refl _) _), ?_⟩
                      clear hK K
                      try simp only [Act.put, List.setIfInBounds_toArray, List.set_cons_zero, List.set_cons_succ]
                      refine wpList_append_slice rfl (.tmp 93) (.tmp 104) 26 26 rfl 114 i5 zeroEdge 3 24 Tryz.underlying26 hi hz0 hz1 hz2 rfl ev L.length (cellsOf PEdge.cells L) (by simp [Act.eval]) (HEY.out.own.keep (Keep.of_below (((Below.refl WY.heap.size WY).alloc (Nat.le_refl _) _).drew) (Nat.le_refl _) (fun _ => False)) (fun _ _ => id)) (.slice (some ⟨WY.heap.size, 0, none⟩) 1 1) 1 (PEdge.cells ⟨p.r, p.c, wt⟩) (by simp [Act.eval]) (Src.litDrew Tryz.underlying26 3 _ rfl (PEdge.cells_one _) _ _ (by first | rfl | simp [PEdge.cells])) (by unfold maxLen; omega) (by omega) ?_
                      intro ao2 q2 w5 ho2 hk2 hb2
                      have HO2 := Lib.hid ho2
                      have HS2 := Lib.hid hb2
                      have HK2 := Lib.hid hk2
                      have HKY := Lib.hid (Keep.of_below (((Below.refl WY.heap.size WY).alloc (Nat.le_refl _) (.cells #[.int .i64 p.r, .int .i64 p.c, .int .i64 wt] 114)).drew) (Nat.le_refl _) (fun _ => False))
                      clear ho2 hk2 hb2
                      have HB5 := Lib.hid (HK2.out.old (HKY.out.old HEY.out.box id) (HNO.out _ (.inl HYS.out.1)))
                      obtain ⟨zz0, zz1, zz2, zf⟩ := cells3 HB5.out
                      clear HPK
                      have HN5 := Lib.hid (HEY.out.next (x := ⟨p.r, p.c, wt⟩) HKY.out HO2.out HK2.out HS2.out)
                      rw [← HEO.out, ← HNEXT.out] at HN5
                      go_wp2_with fail
                      go_roundw
                      case rel => exact Lib.hid ⟨k + 1, _, by go_num, by omega, HN5.out⟩
                      case measure => simp [intOf]; omega
                    · obtain rfl : q = k := by omega
                      have HEF := Lib.hid (show (((pairsF ws ds).take q).map (edgeOf c now ws)) = edgesF c now ws ds by rw [List.take_of_length_le (by rw [HQL.out]; exact Nat.le_refl _)]; rfl)
                      rw [HEF.out] at HED1
                      obtain ⟨ea, ec, rfl⟩ := HED1.out.own.sl
                      obtain ⟨g0, g1, g2, gf⟩ := cells3 HED1.out.box
                      have hb8 : wr.heap[H8]? = some (.cells #[.int .i64 0, .int .i64 0, .slice none 0 0] 28 (0, 0)) := HED1.out.keep.old HR3.out.r (by omega)
                      obtain ⟨r0, r1, r2, rf⟩ := cells3 hb8
                      have HGW := Lib.hid ((HED1.out.grown HR3.out.below HW9.out).write H8L.out (fun g hg he => by have := HED1.out.new g hg; have := HR3.out.r; have := lt_of_block this; omega) (.int .i64 n) (.int .i64 m) (.slice ea (edgesF c now ws ds).length ec))
                      have HQ := Lib.hid (graph_wrote hb8 (.int .i64 n) (.int .i64 m) (.slice ea (edgesF c now ws ds).length ec))
                      clear hb8
                      go_wp2_with fail
                      generalize ((wr.setCell ⟨H8, 0, none⟩ (.int .i64 n)).setCell ⟨H8, 1, none⟩ (.int .i64 m)).setCell ⟨H8, 2, none⟩ (.slice ea (edgesF c now ws ds).length ec) = WF at *
                      obtain ⟨q0, q1, q2⟩ := HQ.out
                      exact bodyPost_ret (v := .tuple #[.agg #[.int .i64 n, .int .i64 m, .slice ea (edgesF c now ws ds).length ec], .int .i64 0]) (by simp [results, Tryz.results85, go_sem, q0, q1, q2]) rfl (GraphPost.yes HE.out HN.out HM.out HGW.out)
end Go.Proofs.YtcaicgipibcicaaGreat
