/- journal.Encode: a record's bytes, or its error; audit.may. -/
import Derived.Test.YtcaicgipibcicaaGreatQRecW
import Derived.Test.YtcaicgipibcicaaGreatQRecCk2
import Derived.Laws.CopyRow
import Derived.Test.YtcaicgipibcicaaGreatQRLists
import Derived.Maps.OwnSet
import Derived.WideKeyArr
namespace Go.Proofs.YtcaicgipibcicaaGreat
set_option maxRecDepth 100000
set_option linter.unusedVariables false
set_option linter.unusedSimpArgs false
open Go.RowKit Go.Sort

set_option maxHeartbeats 4000000 in
theorem newWriter_any (w : World) : Calls Tryz.prog 76 #[] w fun e w' => e = .returned (.pointer (some ⟨w.heap.size, 0, none⟩)) ∧ w' = w.alloc (.cells #[.slice none 0 0, .bool true] 193) := by
  go_enter Tryz.func76, Tryz.ntmps76
  go_wp2_with fail
  go_ret
  exact ⟨rfl, rfl⟩

set_option maxHeartbeats 4000000 in
theorem wbytes_any (w : World) (WB : Nat) (sv : Value) (l : List Int) (n : Nat) (h : W1 w WB sv l) (hn : l.length = n) (h0 : 0 < n) (hl : n ≤ 1000000000) :
    Calls Tryz.prog 79 #[.pointer (some ⟨WB, 0, none⟩)] w fun e w' => e = .returned (.slice (some ⟨w.heap.size, 0, none⟩) n n) ∧ Below w.heap.size w w' ∧ w'.heap[w.heap.size]? = some (.cells (cellsOf bcell l).toArray 5 (0, 0)) := by
  obtain ⟨s0, s1⟩ := h.cells
  have hw := h.own
  rw [hn] at hw
  obtain ⟨g, cap, rfl, hsrc⟩ : ∃ g cap, sv = .slice (some ⟨g, 0, none⟩) n cap ∧ ∀ j u, (cellsOf bcell l)[j]? = some u → w.cell? ⟨g, j, none⟩ = some u := by
    rcases hw.2 with ⟨h1, h2⟩ | ⟨g, cap, h1, h2, h3, h4⟩
    · omega
    · exact ⟨g, cap, h1, fun j u hu => h4.cell j u hu⟩
  have HB := Lib.hid h.box
  clear h hw
  obtain ⟨i5, hi, hz0, hz1, hz2⟩ := infos (show (Tryz.prog.info? 5).map (fun i => (i.zero, i.size, i.bytes)) = some (some (.int .u8 0), 1, 1) by kernel_rfl)
  have hinfo : (Tryz.prog.info? 5).map (·.size) = some 1 := by rw [hi]; simp [hz1]
  obtain ⟨M, hM⟩ : ∃ M, M = madeCells (Value.int .u8 0).cells (((n : Nat) : Int).toNat * i5.size) := ⟨_, rfl⟩
  have hMs : M.size = n := by rw [hM, size_madeCells, hz1]; simp
  have hmk : ∀ W : World, (Instr.makeSlice 59 (.int .i64 (n : Int)) (.int .i64 (n : Int))).run Tryz.prog W = .ok (.slice (some ⟨W.heap.size, 0, none⟩) n n) (W.alloc (.cells M 5)) := fun W => by
    have h := run_make (P := Tryz.prog) W 59 5 i5 (.int .u8 0) Tryz.underlying59 hi hz0 .i64 .i64 (n : Int) (n : Int) (by omega) (by omega) (by rw [hz2]; omega) (by omega)
    rw [← hM] at h
    simpa using h
  clear hM
  have hlen : (cellsOf bcell l).length = n := by rw [bcells_len, hn]
  have hcp : ∀ ty, (Builtin.copy_ #[59, 59] ty #[.slice (some ⟨w.heap.size, 0, none⟩) n n, .slice (some ⟨g, 0, none⟩) n cap]).run Tryz.prog (w.alloc (.cells M 5)) = .ok (goInt n) ((w.alloc (.cells M 5)).setRow w.heap.size (cellsOf bcell l).toArray) := fun ty => by
    have h := run_copy_row (P := Tryz.prog) (w.alloc (.cells M 5)) 59 59 ty 5 w.heap.size 0 n n ⟨g, 0, none⟩ n cap M 5 (cellsOf bcell l) Tryz.underlying59 hinfo (heap_alloc_new w _) (by rw [hlen]; simp [Nat.min_def])
      (fun j u hu => by
        have hadd : (⟨g, 0, none⟩ : Addr).add j = ⟨g, j, none⟩ := by unfold Addr.add; split <;> simp_all
        rw [hadd]
        exact (Keep.alloc (fun _ => False) w (.cells M 5)).cell (hsrc j u hu) id) (by omega) (cellsOf_one bcell bcell_one l)
    rw [hlen] at h
    rw [h, List.take_zero, List.nil_append, List.drop_of_length_le (by rw [Array.length_toList]; omega), List.append_nil]
  have hgY : ((w.alloc (.cells M 5)).setRow w.heap.size (cellsOf bcell l).toArray).heap[w.heap.size]? = some (.cells (cellsOf bcell l).toArray 5 (0, 0)) := setRow_heap _ _ M _ 5 (0, 0) (heap_alloc_new w _)
  have hb1 : Below w.heap.size w (w.alloc (.cells M 5)) := (Below.refl _ w).alloc (Nat.le_refl _) _
  have hb2 : Below w.heap.size (w.alloc (.cells M 5)) ((w.alloc (.cells M 5)).setRow w.heap.size (cellsOf bcell l).toArray) := ⟨rfl, rfl, rfl, by simp, fun k hk => setRow_other _ _ _ _ (by omega)⟩
  have HE := Lib.hid (And.intro (hb1.trans hb2) hgY)
  have s2 := (Keep.alloc (fun _ => False) w (.cells M 5)).cell s0 id
  clear hb1 hb2 hgY hsrc
  go_enter Tryz.func79, Tryz.ntmps79
  go_wp2_with fail
  go_ret
  exact ⟨rfl, HE.out.1, HE.out.2⟩

theorem varB_pos (n : Nat) : 0 < (varB n).length := by by_cases hk : n ≤ 127 <;> simp [varB_small, varB_big, hk]
theorem recB_len {w : World} {v : RV} (hin : v.In w) (hrec : recE v.x = 0) : 0 < (recB v.x).length ∧ (recB v.x).length ≤ 1000000000 := by
  obtain ⟨sz1, sz2⟩ := rec_sizes hrec
  rw [hin.wl] at sz1
  rw [hin.kl] at sz2
  have L0 := varB_pos v.x.tick.toNat
  have L1 := natB_len hin.ok.tick
  have L2 := listB_len (f := waitB) (fun y hy => waitB_len (hin.ok.ws y hy)) hin.wl (by omega)
  have L3 := listB_len (f := idleB) (fun y hy => idleB_len (hin.ok.ds y hy)) hin.kl (by omega)
  have L4 := listB_len (f := edgeB) (fun y hy => edgeB_len (hin.ok.es y hy)) hin.el hin.eb
  have L5 := listB_len (f := pairB) (fun y hy => pairB_len (hin.ok.ps y hy)) hin.pl hin.pb
  have L6 : (v.x.ys.flatMap intB).length ≤ 10485760 := by have := enc_len (f := intB) (m := 10) (L := v.x.ys) (fun y _ => intB_len y); rw [hin.yl] at this; have := hin.yb; omega
  have L7 : (v.x.zs.flatMap intB).length ≤ 10485760 := by have := enc_len (f := intB) (m := 10) (L := v.x.zs) (fun y _ => intB_len y); rw [hin.zl] at this; have := hin.zb; omega
  simp only [recB, List.length_append]
  omega
/-- What Encode answers. -/
def EncPost (w : World) (x : PRec) (e : Ending) (w' : World) : Prop :=
  (recE x ≠ 0 ∧ e = .returned (.tuple #[.slice none 0 0, .int .i64 (recE x)]) ∧ Below w.heap.size w w') ∨
  (recE x = 0 ∧ ∃ b n, e = .returned (.tuple #[.slice (some ⟨b, 0, none⟩) n n, .int .i64 0]) ∧ n = (recB x).length ∧ Below w.heap.size w w' ∧ w.heap.size ≤ b ∧ w'.heap[b]? = some (.cells (cellsOf bcell (recB x)).toArray 5 (0, 0)))

set_option maxHeartbeats 8000000 in
theorem encode_any (w : World) (v : RV) (hin : v.In w) : Calls Tryz.prog 80 #[.agg #[.int .i64 v.x.tick, .slice v.wo v.wn v.wc, .slice v.ko v.kn v.kc, .int .i64 v.x.rows, .int .i64 v.x.cols, .slice v.eo v.en v.ec, .slice v.po v.pn v.pc, .slice v.yo v.yn v.yc, .slice v.zo v.zn v.zc]] w (EncPost w v.x) := by
  have HIN := Lib.hid hin
  clear hin
  have HW := Lib.hid (RbRel.begin w v)
  go_enter Tryz.func80, Tryz.ntmps80
  go_upto_region 1 with fail
  generalize w.alloc (.cells #[.int .i64 v.x.tick, .slice v.wo v.wn v.wc, .slice v.ko v.kn v.kc, .int .i64 v.x.rows, .int .i64 v.x.cols, .slice v.eo v.en v.ec, .slice v.po v.pn v.pc, .slice v.yo v.yn v.yc, .slice v.zo v.zn v.zc] 34) = W at *
  have HHE := Lib.hid (show ∃ H0, w.heap.size = H0 from ⟨_, rfl⟩)
  obtain ⟨H0, hH0⟩ := HHE.out
  rw [hH0] at HW
  rw [hH0]
  have HH := Lib.hid hH0
  clear hH0 HHE
  obtain ⟨g0, g1, g2, g3, g4, g5, g6, g7, g8⟩ := cells9 HW.out.g
  go_wp2_with fail
  clear g0 g1 g2 g3 g4 g5 g6 g7 g8
  refine (jcheck_any W v (HIN.out.keep HW.out.below)).mono ?_
  rintro e w1 ⟨rfl, hb1⟩
  have HR1 := Lib.hid (HW.out.keep hb1)
  clear hb1 HW
  by_cases h0 : recE v.x = 0
  · have HREC := Lib.hid h0
    have HL := Lib.hid (recB_len HIN.out h0)
    rw [h0]
    clear h0
    go_wp2_with fail
    refine (newWriter_any w1).mono ?_
    rintro e w2 ⟨rfl, hw2⟩
    have HBW := Lib.hid (show w2.heap[w1.heap.size]? = some (.cells #[.slice none 0 0, .bool true] 193 (0, 0)) from by rw [hw2]; exact heap_alloc_new w1 _)
    have HK2 := Lib.hid (show Keep (fun _ => False) w1 w2 from by rw [hw2]; exact Keep.alloc _ _ _)
    have HS2 := Lib.hid (show w2.heap.size = w1.heap.size + 1 by rw [hw2]; simp)
    have HRB := Lib.hid (lt_of_block HR1.out.g)
    clear hw2
    generalize w1.heap.size = WB at *
    have HG := Lib.hid (show Gt w w2.heap.size WB (.slice none 0 0) [] (w2.alloc (.cells #[.pointer (some ⟨WB, 0, none⟩), .pointer none, .int .i64 0] 147)) from by
      have hb : Below w.heap.size w w2 := HR1.out.below.trans (HK2.out.below HR1.out.below.size (fun _ _ => id))
      have hs := HS2.out
      have hr := HRB.out
      have hh := HH.out
      exact ⟨heap_alloc_new w2 _, ⟨(Keep.alloc (fun _ => False) w2 _).old HBW.out id, by simpa [cellsOf] using Own.nil (w2.alloc (.cells #[.pointer (some ⟨WB, 0, none⟩), .pointer none, .int .i64 0] 147)) 1, by simp [Value.ownBlock]⟩, by omega, by simp [Value.ownBlock], hb.alloc hb.size _, by omega, fun g hg => by simp [Value.ownBlock] at hg⟩)
    have HR3 := Lib.hid ((Keep.alloc (fun _ => False) w2 (.cells #[.pointer (some ⟨WB, 0, none⟩), .pointer none, .int .i64 0] 147)).old (HK2.out.old HR1.out.g id) id)
    have HF := Lib.hid (show Free (.slice none 0 0) WB H0 from ⟨by have := HRB.out; omega, by simp [Value.ownBlock]⟩)
    have HGR := Lib.hid (show w2.heap.size ≠ H0 by have := HRB.out; have := HS2.out; omega)
    go_wp2_with fail
    generalize w2.alloc (.cells #[.pointer (some ⟨WB, 0, none⟩), .pointer none, .int .i64 0] 147) = w3 at *
    generalize w2.heap.size = GB at *
    refine (record_any w w3 GB WB (.slice none 0 0) v HG.out HIN.out HREC.out H0 HR3.out HF.out HGR.out (by rw [HH.out]; exact Nat.le_refl _)).mono ?_
    rintro e w4 ⟨rfl, sv', hg4⟩
    have HG4 := Lib.hid hg4
    have q0 := hg4.cells
    clear hg4 HG HR3 HR1 HBW HK2
    go_wp2_with fail
    refine (wbytes_any w4 WB sv' (recB v.x) (recB v.x).length HG4.out.w1 rfl HL.out.1 HL.out.2).mono ?_
    rintro e w5 ⟨rfl, hb5, hrow⟩
    have HE := Lib.hid (show EncPost w v.x (.returned (.tuple #[.slice (some ⟨w4.heap.size, 0, none⟩) (recB v.x).length (recB v.x).length, .int .i64 0])) w5 from .inr ⟨HREC.out, _, _, rfl, rfl, Below.next HG4.out.below hb5, HG4.out.below.size, hrow⟩)
    clear hb5 hrow q0
    go_wp2_with fail
    go_ret2
    exact HE.out
  · have HE := Lib.hid (show EncPost w v.x (.returned (.tuple #[.slice none 0 0, .int .i64 (recE v.x)])) w1 from .inl ⟨h0, rfl, HR1.out.below⟩)
    generalize recE v.x = E at *
    have e1 : (E != 0) = true := by simp [h0]
    have e2 : (E == 0) = false := by simp [h0]
    clear h0
    go_wp2_with fail
    go_ret2
    exact HE.out

set_option maxHeartbeats 8000000 in
/-- audit.may: the record's error. -/
theorem may_any (w : World) (v : RV) (hin : v.In w) : Calls Tryz.prog 45 #[.agg #[.int .i64 v.x.tick, .slice v.wo v.wn v.wc, .slice v.ko v.kn v.kc, .int .i64 v.x.rows, .int .i64 v.x.cols, .slice v.eo v.en v.ec, .slice v.po v.pn v.pc, .slice v.yo v.yn v.yc, .slice v.zo v.zn v.zc]] w fun e w' => e = .returned (.int .i64 (recE v.x)) ∧ Below w.heap.size w w' := by
  have HIN := Lib.hid hin
  clear hin
  have HW := Lib.hid (RbRel.begin w v)
  go_enter Tryz.func45, Tryz.ntmps45
  go_upto_region 1 with fail
  generalize w.alloc (.cells #[.int .i64 v.x.tick, .slice v.wo v.wn v.wc, .slice v.ko v.kn v.kc, .int .i64 v.x.rows, .int .i64 v.x.cols, .slice v.eo v.en v.ec, .slice v.po v.pn v.pc, .slice v.yo v.yn v.yc, .slice v.zo v.zn v.zc] 34) = W at *
  have HHE := Lib.hid (show ∃ H0, w.heap.size = H0 from ⟨_, rfl⟩)
  obtain ⟨H0, hH0⟩ := HHE.out
  rw [hH0] at HW
  rw [hH0]
  have HH := Lib.hid hH0
  clear hH0 HHE
  obtain ⟨g0, g1, g2, g3, g4, g5, g6, g7, g8⟩ := cells9 HW.out.g
  go_wp2_with fail
  clear g0 g1 g2 g3 g4 g5 g6 g7 g8
  refine (encode_any W v (HIN.out.keep HW.out.below)).mono ?_
  intro e w1 hp
  rcases hp with ⟨hne, rfl, hb⟩ | ⟨hz, b, n, rfl, hn, hb, hle, hrow⟩
  · have HR1 := Lib.hid (HW.out.keep hb)
    clear hb HW
    obtain ⟨E, hE⟩ : ∃ E, recE v.x = E := ⟨_, rfl⟩
    rw [hE] at hne ⊢
    have HEE := Lib.hid hE
    clear hE
    have e1 : (E != 0) = true := by simp [hne]
    have e2 : (E == 0) = false := by simp [hne]
    clear hne
    go_wp2_with fail
    go_ret
    exact ⟨by rw [HEE.out]; rfl, HR1.out.below⟩
  · have HR1 := Lib.hid (HW.out.keep hb)
    have HZ := Lib.hid hz
    clear hb HW hz hn hle hrow
    go_wp2_with fail
    go_ret
    exact ⟨by rw [HZ.out]; rfl, HR1.out.below⟩
end Go.Proofs.YtcaicgipibcicaaGreat

/- Sets of ids: the key that an id is; how large a set is. -/
namespace Go.Proofs.YtcaicgipibcicaaGreat
set_option maxRecDepth 100000
set_option linter.unusedVariables false
set_option linter.unusedSimpArgs false
open Go.RowKit Go.Sort

theorem idArr : WideMaps.ArrKey Tryz.prog 72 5 8 := ⟨Tryz.underlying72, by kernel_rfl, by kernel_rfl, by kernel_rfl⟩
theorem idLaw : WideMaps.KeyLaw Tryz.prog 72 := idArr.law
theorem idKeyed : Maps.Keyed Tryz.prog 72 := Maps.Keyed.of_law idLaw
def idV (l : List Int) : Value := .agg (l.map (Value.int .u8)).toArray
noncomputable def kidOf (l : List Int) : Lit := (keyOf Tryz.prog 72 (idV l)).getD .nil
theorem u8_wf {n : Int} (h : u8ok n) : (Lit.int .u8 n).wf = true := by
  unfold u8ok at h
  simp [Lit.wf, IntKind.min, IntKind.max, IntKind.signed, IntKind.bits]
  omega
theorem keyOf_id {x0 x1 x2 x3 x4 x5 x6 x7 : Int} (h0 : u8ok x0) (h1 : u8ok x1) (h2 : u8ok x2) (h3 : u8ok x3) (h4 : u8ok x4) (h5 : u8ok x5) (h6 : u8ok x6) (h7 : u8ok x7) :
    keyOf Tryz.prog 72 (.agg #[.int .u8 x0, .int .u8 x1, .int .u8 x2, .int .u8 x3, .int .u8 x4, .int .u8 x5, .int .u8 x6, .int .u8 x7]) = some (kidOf [x0, x1, x2, x3, x4, x5, x6, x7]) := by
  suffices h : ∃ l, keyOf Tryz.prog 72 (.agg #[.int .u8 x0, .int .u8 x1, .int .u8 x2, .int .u8 x3, .int .u8 x4, .int .u8 x5, .int .u8 x6, .int .u8 x7]) = some l by
    obtain ⟨l, hl⟩ := h
    rw [hl]
    unfold kidOf idV
    rw [show (Value.agg (List.map (Value.int .u8) [x0, x1, x2, x3, x4, x5, x6, x7]).toArray) = .agg #[.int .u8 x0, .int .u8 x1, .int .u8 x2, .int .u8 x3, .int .u8 x4, .int .u8 x5, .int .u8 x6, .int .u8 x7] from rfl, hl]
    rfl
  obtain ⟨m, hm⟩ : ∃ m, Tryz.prog.types.size = m + 1 := ⟨Tryz.prog.types.size - 1, by
    have : 0 < Tryz.prog.types.size := of_decide_eq_true (by kernel_rfl)
    omega⟩
  have hc : Tryz.prog.cellsOf 5 = 1 := by kernel_rfl
  have hk : Tryz.prog.cellsOf 72 = 8 := by kernel_rfl
  have hkt : Tryz.prog.keyType 72 = true := idArr.keyType ⟨m, hm⟩
  have hu : Tryz.prog.underlying 5 = some (.int .u8) := Tryz.underlying5
  unfold keyOf
  rw [Tryz.underlying72]
  simp only [hkt, Value.formed, Tryz.underlying72, Value.cells, hk, hm]
  simp [Program.keyLits, Tryz.underlying72, hk, hc, hu, List.range_succ, u8_wf h0, u8_wf h1, u8_wf h2, u8_wf h3, u8_wf h4, u8_wf h5, u8_wf h6, u8_wf h7]
theorem kid_inj {a b : List Int} (ha : ∃ l, keyOf Tryz.prog 72 (idV a) = some l) (hb : ∃ l, keyOf Tryz.prog 72 (idV b) = some l) : kidOf a = kidOf b ↔ a = b := by
  refine ⟨fun h => ?_, fun h => by rw [h]⟩
  obtain ⟨l, hl⟩ := ha
  obtain ⟨l', hl'⟩ := hb
  unfold kidOf at h
  rw [hl, hl'] at h
  simp at h
  subst h
  have hv := idLaw.inj hl hl'
  unfold idV at hv
  simp at hv
  exact (List.map_inj_right (fun x y h => by simpa using h)).1 hv
theorem kid_key {a : List Int} (ha : ∃ l, keyOf Tryz.prog 72 (idV a) = some l) : WideAt.IsKeyLit (kidOf a) := by
  obtain ⟨l, hl⟩ := ha
  unfold kidOf
  rw [hl]
  exact idKeyed.key hl
/-- A set of ids. -/
noncomputable def setI (ids : List (List Int)) : DataW Unit := Maps.setOf (.agg []) (ids.map kidOf)
theorem setI_next {ids : List (List Int)} {k : Nat} {a : List Int} (h : ids[k]? = some a) : setI (ids.take (k + 1)) = (setI (ids.take k)).put (kidOf a) (.agg []) := by
  unfold setI
  rw [take_map_next h, Maps.setOf_snoc]
def KeyIds (ids : List (List Int)) : Prop := ∀ a ∈ ids, ∃ l, keyOf Tryz.prog 72 (idV a) = some l
theorem set_size {ids : List (List Int)} (hK : KeyIds ids) : ∀ k, k ≤ ids.length → (Maps.size (setI (ids.take k)) = k ∧ ∀ j, j < k → newAt ids j = true) ∨ (Maps.size (setI (ids.take k)) < k ∧ onceF ids = false) := by
  intro k
  induction k with
  | zero => exact fun _ => .inl ⟨rfl, fun j h => absurd h (Nat.not_lt_zero j)⟩
  | succ k ih =>
    intro hk
    obtain ⟨a, ha⟩ : ∃ a, ids[k]? = some a := ⟨ids[k]'(by omega), List.getElem?_eq_getElem _⟩
    have hkey : ∀ x ∈ (ids.take k).map kidOf, WideAt.IsKeyLit x := by
      intro x hx
      obtain ⟨y, hy, rfl⟩ := List.mem_map.1 hx
      exact kid_key (hK y (List.mem_of_mem_take hy))
    have ht : Maps.Tidy (setI (ids.take k)) := Maps.tidy_setOf _ _ hkey
    have hh : Maps.has (setI (ids.take k)) (kidOf a) = ((ids.take k).map kidOf).any (fun x => x.sameKey (kidOf a)) := Maps.has_setOf _ _ _ hkey
    rw [setI_next ha, Maps.size_put ht]
    rcases ih (by omega) with ⟨h1, h2⟩ | ⟨h1, h2⟩
    · cases hq : Maps.has (setI (ids.take k)) (kidOf a) with
      | true =>
        refine .inr ⟨by simp; omega, ?_⟩
        rw [hq] at hh
        obtain ⟨x, hx, hs⟩ := List.any_eq_true.1 hh.symm
        obtain ⟨y, hy, rfl⟩ := List.mem_map.1 hx
        obtain ⟨i, hi⟩ := List.mem_iff_getElem?.1 hy
        rw [List.getElem?_take] at hi
        split at hi
        · rename_i hlt
          refine allF_bad (show k < ids.length by omega) (newAt_no ha hi hlt ?_)
          exact (kid_inj (hK y (List.mem_of_mem_take hy)) (hK a (List.mem_of_getElem? ha))).1 (WideAt.sameKey_eq hs)
        · cases hi
      | false =>
        refine .inl ⟨by simp; omega, upto_next h2 (newAt_ok ha (fun i b hi hb he => ?_))⟩
        rw [hq] at hh
        subst he
        have := List.any_eq_false.1 hh.symm (kidOf b) (List.mem_map.2 ⟨b, List.mem_iff_getElem?.2 ⟨i, by rw [List.getElem?_take, if_pos hi]; exact hb⟩, rfl⟩)
        rw [WideAt.sameKey_self (kid_key (hK b (List.mem_of_getElem? hb)))] at this
        exact this rfl
    · exact .inr ⟨by split <;> omega, h2⟩
theorem set_once {ids : List (List Int)} (hK : KeyIds ids) {n : Nat} (hn : ids.length = n) : (Maps.size (setI ids) = n ∧ onceF ids = true) ∨ (Maps.size (setI ids) ≠ n ∧ onceF ids = false) := by
  subst hn
  have h := set_size hK ids.length (Nat.le_refl _)
  rw [List.take_length] at h
  rcases h with ⟨h1, h2⟩ | ⟨h1, h2⟩
  · exact .inl ⟨h1, allF_good h2⟩
  · exact .inr ⟨by omega, h2⟩
theorem ownsMap_keep {X : Nat → Prop} {w w' : World} {b n : Nat} {D : DataW Unit} (h : w.ownsMap Tryz.prog 72 unitElem b n D) (hk : Keep X w w') (hx : ¬ X b) : w'.ownsMap Tryz.prog 72 unitElem b n D := by
  obtain ⟨es, clock, hb, F, hs, hD⟩ := h
  exact ⟨es, clock, hk.old hb hx, F, hs, hD⟩
/-- A configuration, a record, two sets. -/
structure LmRel (w : World) (c : PConf) (v : RV) (H0 H1 M1 M2 n1 n2 : Nat) (D1 D2 : DataW Unit) (wr : World) : Prop where
  cr : CrRel w c v H0 H1 wr
  m1 : wr.ownsMap Tryz.prog 72 unitElem M1 n1 D1
  m2 : wr.ownsMap Tryz.prog 72 unitElem M2 n2 D2
  lt0 : H0 < M1
  lt1 : H1 < M1
  lt2 : M1 < M2
  ge : w.heap.size ≤ M1
theorem LmRel.keep {w : World} {c : PConf} {v : RV} {H0 H1 M1 M2 n1 n2 : Nat} {D1 D2 : DataW Unit} {wr w' : World} (h : LmRel w c v H0 H1 M1 M2 n1 n2 D1 D2 wr) (hb : Below wr.heap.size wr w') : LmRel w c v H0 H1 M1 M2 n1 n2 D1 D2 w' :=
  ⟨h.cr.keep hb, ownsMap_keep h.m1 (Keep.of_below hb (Nat.le_refl _) (fun _ => False)) id, ownsMap_keep h.m2 (Keep.of_below hb (Nat.le_refl _) (fun _ => False)) id, h.lt0, h.lt1, h.lt2, h.ge⟩
theorem LmRel.one {w : World} {c : PConf} {v : RV} {H0 H1 M1 M2 n1 n2 : Nat} {D1 D2 : DataW Unit} {wr : World} (h : LmRel w c v H0 H1 M1 M2 n1 n2 D1 D2 wr) (o : Obj) : LmRel w c v H0 H1 M1 M2 n1 n2 D1 D2 (wr.alloc o) := h.keep ((Below.refl _ _).alloc (Nat.le_refl _) _)
theorem CrRel.keepX {w : World} {c : PConf} {v : RV} {H0 H1 : Nat} {wr w' : World} {X : Nat → Prop} (h : CrRel w c v H0 H1 wr) (hk : Keep X wr w') (h0 : ¬ X H0) (h1 : ¬ X H1) (hb : ∀ i, i < w.heap.size → ¬ X i) : CrRel w c v H0 H1 w' :=
  ⟨hk.old h.g h0, hk.old h.h h1, h.below.trans (hk.below h.below.size hb)⟩
theorem LmRel.put1 {w : World} {c : PConf} {v : RV} {H0 H1 M1 M2 n1 n2 m : Nat} {D1 D2 E : DataW Unit} {wr w' : World} (h : LmRel w c v H0 H1 M1 M2 n1 n2 D1 D2 wr) (hm : w'.ownsMap Tryz.prog 72 unitElem M1 m E) (hg : wr.grownBy w' (some M1)) : LmRel w c v H0 H1 M1 M2 m n2 E D2 w' := by
  have hk := Keep.of_grown hg
  have q0 := h.lt0
  have q1 := h.lt1
  have q2 := h.lt2
  have q3 := h.ge
  exact ⟨h.cr.keepX hk (fun e => by cases e; omega) (fun e => by cases e; omega) (fun i hi e => by cases e; omega), hm, ownsMap_keep h.m2 hk (fun e => by cases e; omega), q0, q1, q2, q3⟩
theorem LmRel.put2 {w : World} {c : PConf} {v : RV} {H0 H1 M1 M2 n1 n2 m : Nat} {D1 D2 E : DataW Unit} {wr w' : World} (h : LmRel w c v H0 H1 M1 M2 n1 n2 D1 D2 wr) (hm : w'.ownsMap Tryz.prog 72 unitElem M2 m E) (hg : wr.grownBy w' (some M2)) : LmRel w c v H0 H1 M1 M2 n1 m D1 E w' := by
  have hk := Keep.of_grown hg
  have q0 := h.lt0
  have q1 := h.lt1
  have q2 := h.lt2
  have q3 := h.ge
  exact ⟨h.cr.keepX hk (fun e => by cases e; omega) (fun e => by cases e; omega) (fun i hi e => by cases e; omega), ownsMap_keep h.m1 hk (fun e => by cases e; omega), hm, q0, q1, q2, q3⟩
theorem LmRel.begin {w : World} {c : PConf} {v : RV} {H0 H1 : Nat} {W : World} (h : CrRel w c v H0 H1 W) : LmRel w c v H0 H1 W.heap.size (W.heap.size + 1) 0 0 (setI []) (setI []) ((W.alloc (.map #[] 0)).alloc (.map #[] 0)) := by
  refine ⟨(h.one _).one _, (World.ownsMap_made _ _ _ _).alloc _, ?_, lt_of_block h.g, lt_of_block h.h, Nat.lt_succ_self _, h.below.size⟩
  have := World.ownsMap_made (W.alloc (.map #[] 0)) Tryz.prog 72 (unitElem (H := Unit))
  rw [show (W.alloc (.map #[] 0)).heap.size = W.heap.size + 1 by simp] at this
  exact this
end Go.Proofs.YtcaicgipibcicaaGreat
