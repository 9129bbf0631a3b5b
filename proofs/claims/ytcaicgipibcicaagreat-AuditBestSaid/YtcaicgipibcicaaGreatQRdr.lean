/- Two auditors of the program's, two of the reference's, and the twin of a record that they see. -/
import Derived.Test.YtcaicgipibcicaaGreatQWipe
import Derived.Test.YtcaicgipibcicaaGreatQAuMap
import Derived.Test.YtcaicgipibcicaaGreatQAuSee
import Derived.Laws.CopyOwn
namespace Go.Proofs.YtcaicgipibcicaaGreat
set_option maxRecDepth 100000
set_option linter.unusedVariables false
set_option linter.unusedSimpArgs false
open Go.RowKit Go.Sort

/-- Both pairs behind j records, in blocks apart from each other; none between m and m'. -/
def SsAt (w0 : World) (c d : PConf) (pv1 pv2 : Value) (R1 R2 j m m' : Nat) (wr : World) : Prop :=
  Below w0.heap.size w0 wr ∧ m' ≤ wr.heap.size ∧ ∃ U1 U2, Duo w0.heap.size c pv1 R1 U1 j wr ∧ Duo w0.heap.size d pv2 R2 U2 j wr ∧ (∀ g, U1 g → ¬ U2 g) ∧ (∀ g, U1 g ∨ U2 g → g < m ∨ m' ≤ g)
/-- The first pair's program has seen the record. -/
def SsHalf (w0 : World) (c d : PConf) (pv1 pv2 : Value) (R1 R2 j m m' : Nat) (v : RV) (z : Int) (wr : World) : Prop :=
  Below w0.heap.size w0 wr ∧ m' ≤ wr.heap.size ∧ ∃ U1 U2, Half w0.heap.size c pv1 R1 U1 j v z wr ∧ Duo w0.heap.size d pv2 R2 U2 (j + 1) wr ∧ (∀ g, U1 g → ¬ U2 g) ∧ (∀ g, U1 g ∨ U2 g → (g < m ∨ m' ≤ g) ∧ w0.heap.size ≤ g ∧ g < wr.heap.size)
/-- The twin in its box, its lists, all between m and m'. -/
structure SsTw (v : RV) (G1 G2 G3 G4 G5 G6 T m m' : Nat) (wr : World) : Prop where
  t : wr.heap[T]? = some (.cells #[.int .i64 v.x.tick, .slice (some ⟨G1, 0, none⟩) v.wn (v.wn + 1), .slice (some ⟨G2, 0, none⟩) v.kn (v.kn + 1), .int .i64 v.x.rows, .int .i64 v.x.cols, .slice (some ⟨G3, 0, none⟩) v.en (v.en + 1), .slice (some ⟨G4, 0, none⟩) v.pn (v.pn + 1), .slice (some ⟨G5, 0, none⟩) v.yn (v.yn + 1), .slice (some ⟨G6, 0, none⟩) v.zn (v.zn + 1)] 34 (0, 0))
  tw : TwinR v G1 G2 G3 G4 G5 G6 wr
  ge : m ≤ G1 ∧ m ≤ G2 ∧ m ≤ G3 ∧ m ≤ G4 ∧ m ≤ G5 ∧ m ≤ G6 ∧ m ≤ T
  lt : G1 < m' ∧ G2 < m' ∧ G3 < m' ∧ G4 < m' ∧ G5 < m' ∧ G6 < m' ∧ T < m'
section
variable {w0 : World} {c d : PConf} {pv1 pv2 : Value} {R1 R2 j m m' : Nat} {v : RV} {G1 G2 G3 G4 G5 G6 T : Nat} {z : Int} {w w' : World}
theorem SsAt.swap (h : SsAt w0 c d pv1 pv2 R1 R2 j m m' w) : SsAt w0 d c pv2 pv1 R2 R1 j m m' w := by
  obtain ⟨h0, hm, U1, U2, h1, h2, h3, h4⟩ := h
  exact ⟨h0, hm, U2, U1, h2, h1, fun g a b => h3 g b a, fun g hg => h4 g hg.symm⟩
theorem SsAt.next (h : SsAt w0 c d pv1 pv2 R1 R2 j m m' w) (hb : Below w.heap.size w w') : SsAt w0 c d pv1 pv2 R1 R2 j m m' w' := by
  obtain ⟨h0, hm, U1, U2, h1, h2, h3, h4⟩ := h
  exact ⟨Below.next h0 hb, Nat.le_trans hm hb.size, U1, U2, h1.below hb, h2.below hb, h3, h4⟩
/-- What lies between m and m' is written over. -/
theorem SsAt.over (h : SsAt w0 c d pv1 pv2 R1 R2 j m m' w) (hm0 : w0.heap.size ≤ m) {X : Nat → Prop} (hk : Keep X w w') (hX : ∀ g, X g → m ≤ g ∧ g < m') : SsAt w0 c d pv1 pv2 R1 R2 j 0 0 w' := by
  obtain ⟨h0, hm, U1, U2, h1, h2, h3, h4⟩ := h
  have hN : ∀ g, X g → w0.heap.size ≤ g := fun g hg => Nat.le_trans hm0 (hX g hg).1
  refine ⟨h0.trans (hk.below h0.size (fun i hi hx => Nat.lt_irrefl _ (Nat.lt_of_lt_of_le hi (hN i hx)))), Nat.zero_le _, U1, U2, h1.keep hk (fun g hg hx => ?_) hN, h2.keep hk (fun g hg hx => ?_) hN, h3, fun g _ => .inr (Nat.zero_le _)⟩
  · have := hX g hx
    rcases h4 g (.inl hg) with h | h <;> omega
  · have := hX g hx
    rcases h4 g (.inr hg) with h | h <;> omega
/-- A stretch of new blocks is set apart. -/
theorem SsAt.apart (h : SsAt w0 c d pv1 pv2 R1 R2 j m m' w) (hb : Below w.heap.size w w') : SsAt w0 c d pv1 pv2 R1 R2 j w.heap.size w'.heap.size w' := by
  obtain ⟨h0, hm, U1, U2, h1, h2, h3, h4⟩ := h
  refine ⟨Below.next h0 hb, Nat.le_refl _, U1, U2, h1.below hb, h2.below hb, h3, fun g hg => .inl ?_⟩
  rcases hg with hg | hg
  · exact (h1.lt g hg).2
  · exact (h2.lt g hg).2
theorem SsTw.keep (h : SsTw v G1 G2 G3 G4 G5 G6 T m m' w) {X : Nat → Prop} (hk : Keep X w w') (hX : ∀ g, X g → g < m ∨ m' ≤ g) : SsTw v G1 G2 G3 G4 G5 G6 T m m' w' := by
  obtain ⟨a1, a2, a3, a4, a5, a6, a7⟩ := h.ge
  obtain ⟨b1, b2, b3, b4, b5, b6, b7⟩ := h.lt
  have no : ∀ g, m ≤ g → g < m' → ¬ X g := fun g h1 h2 hx => by rcases hX g hx with h | h <;> omega
  exact ⟨hk.old h.t (no _ a7 b7), ⟨range_keep h.tw.w hk (no _ a1 b1), range_keep h.tw.k hk (no _ a2 b2), range_keep h.tw.e hk (no _ a3 b3), range_keep h.tw.p hk (no _ a4 b4), range_keep h.tw.y hk (no _ a5 b5), range_keep h.tw.z hk (no _ a6 b6), there_keep h.tw.rw hk (no _ a1 b1), there_keep h.tw.rk hk (no _ a2 b2), there_keep h.tw.re hk (no _ a3 b3), there_keep h.tw.rp hk (no _ a4 b4)⟩, h.ge, h.lt⟩
theorem SsTw.next (h : SsTw v G1 G2 G3 G4 G5 G6 T m m' w) (hb : Below w.heap.size w w') : SsTw v G1 G2 G3 G4 G5 G6 T m m' w' :=
  h.keep (Keep.of_below hb (Nat.le_refl _) (fun _ => False)) (fun _ h => h.elim)
/-- The program's first auditor sees the twin. -/
theorem ss_see (h : SsAt w0 c d pv1 pv2 R1 R2 j m m' w) (ht : SsTw v G1 G2 G3 G4 G5 G6 T m m' w) (hm0 : w0.heap.size ≤ m) (hj : j ≤ 1048576) (hin : v.In w0) :
    Calls Tryz.prog 20 #[pv1, .agg #[.int .i64 v.x.tick, .slice (some ⟨G1, 0, none⟩) v.wn (v.wn + 1), .slice (some ⟨G2, 0, none⟩) v.kn (v.kn + 1), .int .i64 v.x.rows, .int .i64 v.x.cols, .slice (some ⟨G3, 0, none⟩) v.en (v.en + 1), .slice (some ⟨G4, 0, none⟩) v.pn (v.pn + 1), .slice (some ⟨G5, 0, none⟩) v.yn (v.yn + 1), .slice (some ⟨G6, 0, none⟩) v.zn (v.zn + 1)]] w
      fun e w' => ∃ z, e = .returned (.int .i64 z) ∧ SsHalf w0 c d pv1 pv2 R1 R2 j m m' v z w' ∧ SsTw v G1 G2 G3 G4 G5 G6 T m m' w' := by
  obtain ⟨h0, hm, U1, U2, h1, h2, h3, h4⟩ := h
  obtain ⟨a1, a2, a3, a4, a5, a6, a7⟩ := ht.ge
  obtain ⟨b1, b2, b3, b4, b5, b6, b7⟩ := ht.lt
  have no : ∀ g, m ≤ g → g < m' → ¬ U1 g := fun g h1 h2 hx => by rcases h4 g (.inl hx) with h | h <;> omega
  refine (duo_see h1 hj v (v.twin G1 G2 G3 G4 G5 G6) rfl (ht.tw.in (hin.below h0)) ?_).mono ?_
  · intro ao hao b o hb
    rcases hao with rfl | rfl | rfl | rfl | rfl | rfl <;> cases hb
    · exact no _ a1 b1
    · exact no _ a2 b2
    · exact no _ a3 b3
    · exact no _ a4 b4
    · exact no _ a5 b5
    · exact no _ a6 b6
  · rintro e w' ⟨z, rfl, hh, hk⟩
    have hlt := h1.lt
    refine ⟨z, rfl, ⟨h0.trans (hk.below h0.size (fun i hi hx => Nat.lt_irrefl _ (Nat.lt_of_lt_of_le hi (hlt i hx).1))), Nat.le_trans hm hk.size, U1, U2, hh, (h2.keep hk (fun g a b => h3 g b a) (fun g hg => (hlt g hg).1)).more, h3, fun g hg => ⟨h4 g hg, ?_⟩⟩, ht.keep hk (fun g hg => h4 g (.inl hg))⟩
    rcases hg with hg | hg
    · exact ⟨(hlt g hg).1, Nat.lt_of_lt_of_le (hlt g hg).2 hk.size⟩
    · exact ⟨(h2.lt g hg).1, Nat.lt_of_lt_of_le (h2.lt g hg).2 hk.size⟩
/-- None of the first pair is there. -/
theorem ss_bad (h : SsHalf w0 c d pv1 pv2 R1 R2 j m m' v z w) (hc : configF c = false) : z = 2 ∧ SsAt w0 c d pv1 pv2 R1 R2 (j + 1) m m' w := by
  obtain ⟨h0, hm, U1, U2, h1, h2, h3, h4⟩ := h
  obtain ⟨hz, hd⟩ := h1.bad hc
  exact ⟨hz, h0, hm, U1, U2, hd, h2, h3, fun g hg => (h4 g hg).1⟩
/-- The reference's sees the record. -/
theorem ss_ref (h : SsHalf w0 c d pv1 pv2 R1 R2 j m m' v z w) (ht : SsTw v G1 G2 G3 G4 G5 G6 T m m' w) (hc : configF c = true) (hj : j ≤ 1048576) (hin : v.In w0) :
    Calls Tryz.prog 21 #[.pointer (some ⟨R1, 0, none⟩), .agg #[.int .i64 v.x.tick, .slice v.wo v.wn v.wc, .slice v.ko v.kn v.kc, .int .i64 v.x.rows, .int .i64 v.x.cols, .slice v.eo v.en v.ec, .slice v.po v.pn v.pc, .slice v.yo v.yn v.yc, .slice v.zo v.zn v.zc]] w fun e w' => e = .returned (.int .i64 z) ∧ SsAt w0 c d pv1 pv2 R1 R2 (j + 1) m m' w' ∧ SsTw v G1 G2 G3 G4 G5 G6 T m m' w' := by
  obtain ⟨h0, hm, U1, U2, h1, h2, h3, h4⟩ := h
  have hbel : v.In w := hin.below h0
  refine (duo_ref h1 hc hj hbel hin.low h0.size).mono ?_
  rintro e w' ⟨rfl, hd, hk⟩
  have hN : ∀ g, U1 g → w0.heap.size ≤ g := fun g hg => (h4 g (.inl hg)).2.1
  refine ⟨rfl, ⟨h0.trans (hk.below h0.size (fun i hi hx => Nat.lt_irrefl _ (Nat.lt_of_lt_of_le hi (hN i hx)))), Nat.le_trans hm hk.size, _, U2, hd, h2.keep hk (fun g a b => h3 g b a) hN, fun g hg h5 => ?_, fun g hg => ?_⟩, ht.keep hk (fun g hg => (h4 g (.inl hg)).1)⟩
  · rcases hg with hg | hg
    · exact h3 g hg h5
    · have := (h4 g (.inr h5)).2.2
      omega
  · rcases hg with (hg | hg) | hg
    · exact (h4 g (.inl hg)).1
    · exact .inr (Nat.le_trans hm hg.1)
    · exact (h4 g (.inr hg)).1
end

/-- What New leaves, as one case. -/
theorem newAu_one (w : World) (c : PConf) : Calls Tryz.prog 18 #[.agg #[.int .i64 c.q, .int .i64 c.d, .int .i64 c.w, .int .i64 c.ttl, .int .i64 c.b]] w fun e w' => ∃ pv, e = .returned (.tuple #[pv, .int .i64 (configE c)]) ∧ Below w.heap.size w w' ∧ (∀ w, (binOp .eql 46 pv (.pointer none)).run Tryz.prog w = .ok (.bool (configE c != 0)) w) ∧ (∀ (k : Nat) w, (eqGuard .eql 46 (.tmp k) (.const (.pointer none)) pv (.pointer none)).run Tryz.prog w = .ok () w) ∧
    ((configF c = false ∧ pv = .pointer none) ∨ (configF c = true ∧ ∃ A M, pv = .pointer (some ⟨A, 0, none⟩) ∧ AuAt ⟨c, 0, []⟩ A M 0 w' ∧ w.heap.size ≤ A ∧ w.heap.size ≤ M ∧ A ≠ M)) := by
  refine (newAu_any w c).mono ?_
  rintro e w' (⟨hc, rfl, hb⟩ | ⟨hc, A, M, rfl, hb, ha, h1, h2, h3⟩)
  · have he : configE c = 160 := by simp [configE, hc]
    refine ⟨.pointer none, by rw [he], hb, fun w => ?_, fun k w => by kernel_rfl, .inl ⟨hc, rfl⟩⟩
    rw [he]
    kernel_rfl
  · have he : configE c = 0 := by simp [configE, hc]
    refine ⟨_, by rw [he], hb, fun w => ?_, fun k w => by kernel_rfl, .inr ⟨hc, A, M, rfl, ha, h1, h2, h3⟩⟩
    rw [he]
    kernel_rfl
/-- Both are there for the first time. -/
theorem Duo.begin {N : Nat} {c : PConf} {pv : Value} {R : Nat} {w1 w2 w3 : World} (h : (configF c = false ∧ pv = .pointer none) ∨ (configF c = true ∧ ∃ A M, pv = .pointer (some ⟨A, 0, none⟩) ∧ AuAt ⟨c, 0, []⟩ A M 0 w2 ∧ w1.heap.size ≤ A ∧ w1.heap.size ≤ M ∧ A ≠ M))
    (hN : N ≤ w1.heap.size) (h12 : w1.heap.size ≤ w2.heap.size) (hb : Below w2.heap.size w2 w3) (hR : w2.heap.size ≤ R) {cs : List Value} (hcs : configF c = true → cs = [.int .i64 c.q, .int .i64 c.d, .int .i64 c.w, .int .i64 c.ttl, .int .i64 c.b, .slice none 0 0]) (hr : w3.heap[R]? = some (.cells cs.toArray 50 (0, 0))) :
    ∃ U, Duo N c pv R U 0 w3 ∧ ∀ g, U g → (w1.heap.size ≤ g ∧ g < w2.heap.size) ∨ g = R := by
  rcases h with ⟨hc, rfl⟩ | ⟨hc, A, M, rfl, ha, h1, h2, h3⟩
  · exact ⟨fun _ => False, .inl ⟨hc, rfl, fun _ h => h⟩, fun g h => h.elim⟩
  · have hAl := lt_of_block ha.box
    have hMl : M < w2.heap.size := by obtain ⟨es, clock, hb, r⟩ := ha.own; exact lt_of_block hb
    rw [hcs hc] at hr
    refine ⟨_, Duo.new hc (ha.keep hb) h3 (by omega) (by omega) (by omega) (by omega) (by omega) hr, fun g hg => ?_⟩
    rcases hg with rfl | rfl | rfl
    · exact .inl ⟨h1, hAl⟩
    · exact .inl ⟨h2, hMl⟩
    · exact .inr rfl
theorem rnewV_cells (c : PConf) : ∃ cs : List Value, rnewV c = .agg cs.toArray ∧ cs.length = 6 ∧ (∀ u ∈ cs, u.oneCell' = true) ∧ (configF c = true → cs = [.int .i64 c.q, .int .i64 c.d, .int .i64 c.w, .int .i64 c.ttl, .int .i64 c.b, .slice none 0 0]) := by
  unfold rnewV
  split
  · refine ⟨_, rfl, rfl, fun u hu => ?_, fun _ => rfl⟩
    simp only [List.mem_cons, List.not_mem_nil, or_false] at hu
    rcases hu with rfl | rfl | rfl | rfl | rfl | rfl <;> rfl
  · rename_i h
    refine ⟨[.int .i64 0, .int .i64 0, .int .i64 0, .int .i64 0, .int .i64 0, .slice none 0 0], rfl, rfl, fun u hu => ?_, fun h2 => absurd h2 h⟩
    simp only [List.mem_cons, List.not_mem_nil, or_false] at hu
    rcases hu with rfl | rfl | rfl | rfl | rfl | rfl <;> rfl
end Go.Proofs.YtcaicgipibcicaaGreat

/- The codec's Reader where it fails, and where it has failed. -/
namespace Go.Proofs.YtcaicgipibcicaaGreat
set_option maxRecDepth 100000
set_option linter.unusedVariables false
set_option linter.unusedSimpArgs false
open Go.RowKit Go.Sort

/-- A reader. -/
def RdAt (w : World) (R : Nat) (ao : Option Addr) (n c : Nat) (f : Int) : Prop := w.heap[R]? = some (.cells #[.slice ao n c, .int .i64 f, .bool true] 226 (0, 0))
theorem RdAt.keep {w w' : World} {R : Nat} {ao : Option Addr} {n c : Nat} {f : Int} {X : Nat → Prop} (h : RdAt w R ao n c f) (hk : Keep X w w') (hx : ¬ X R) : RdAt w' R ao n c f := hk.old h hx
theorem RdAt.fail {w : World} {R : Nat} {ao : Option Addr} {n c : Nat} {f : Int} (h : RdAt w R ao n c f) (e : Int) : RdAt ((w.setCell ⟨R, 1, none⟩ (.int .i64 e)).setCell ⟨R, 0, none⟩ (.slice none 0 0)) R none 0 0 e ∧ Keep (fun k => k = R) w ((w.setCell ⟨R, 1, none⟩ (.int .i64 e)).setCell ⟨R, 0, none⟩ (.slice none 0 0)) :=
  ⟨row_set (row_set h 1 (.int .i64 e)) 0 (.slice none 0 0), (keep1 w R 1 _).trans (keep1 _ R 0 _) (fun _ _ h => h) (fun _ _ h => h)⟩

set_option maxHeartbeats 4000000 in
theorem fail_first (w : World) (R : Nat) (ao : Option Addr) (n c : Nat) (e : Int) (h : RdAt w R ao n c 0) :
    Calls Tryz.prog 181 #[.pointer (some ⟨R, 0, none⟩), .int .i64 e] w fun r w' => r = .returned (.tuple #[]) ∧ RdAt w' R none 0 0 e ∧ Keep (fun k => k = R) w w' := by
  have HF := Lib.hid (h.fail e)
  obtain ⟨g0, g1, g2, gf⟩ := cells3 h
  clear h
  go_enter Tryz.func181, Tryz.ntmps181
  go_wp2_with fail
  exact bodyPost_end (v := .tuple #[]) (by simp [results, Tryz.results181, go_sem]) rfl ⟨rfl, HF.out.1, HF.out.2⟩

set_option maxHeartbeats 4000000 in
theorem next_bad (w : World) (R : Nat) (ao : Option Addr) (n c : Nat) (f : Int) (k : Nat) (h : RdAt w R ao n c f) (hf : f ≠ 0) :
    Calls Tryz.prog 182 #[.pointer (some ⟨R, 0, none⟩), .int .i64 (k : Int)] w fun r w' => r = .returned (.slice none 0 0) ∧ w' = w := by
  obtain ⟨g0, g1, g2, gf⟩ := cells3 h
  have b1 : (f != 0) = true := by simp [hf]
  clear h
  go_enter Tryz.func182, Tryz.ntmps182
  go_wp2_with fail
  go_ret
  exact ⟨rfl, rfl⟩

set_option maxHeartbeats 4000000 in
theorem next_short (w : World) (R : Nat) (ao : Option Addr) (n c : Nat) (k : Nat) (h : RdAt w R ao n c 0) (hk : n < k) :
    Calls Tryz.prog 182 #[.pointer (some ⟨R, 0, none⟩), .int .i64 (k : Int)] w fun r w' => r = .returned (.slice none 0 0) ∧ RdAt w' R none 0 0 20 ∧ Keep (fun k => k = R) w w' := by
  have H := Lib.hid h
  obtain ⟨g0, g1, g2, gf⟩ := cells3 h
  have b1 : decide ((n : Int) < (k : Int)) = true := decide_eq_true (by omega)
  clear h
  go_enter Tryz.func182, Tryz.ntmps182
  go_wp2_with fail
  refine (fail_first w R ao n c 20 H.out).mono ?_
  rintro e w2 ⟨rfl, h2, k2⟩
  have H2 := Lib.hid h2
  have K2 := Lib.hid k2
  clear h2 k2
  go_wp2_with fail
  go_ret
  exact ⟨rfl, H2.out, K2.out⟩

/-- Nothing comes any more. -/
def Dry (w : World) (R : Nat) (w' : World) : Prop := ∃ f ao c, f ≠ 0 ∧ RdAt w' R ao 0 c f ∧ Keep (fun k => k = R) w w'

set_option maxHeartbeats 4000000 in
theorem fixed_nil (w : World) (R : Nat) (ao : Option Addr) (c : Nat) (f : Int) (h : RdAt w R ao 0 c f) :
    Calls Tryz.prog 155 #[.pointer (some ⟨R, 0, none⟩), .int .i64 4] w fun r w' => r = .returned (.int .u64 0) ∧ Dry w R w' := by
  have HN : ∃ w2, (Dry w R w2) ∧ Calls Tryz.prog 182 #[.pointer (some ⟨R, 0, none⟩), .int .i64 4] w fun r w' => r = .returned (.slice none 0 0) ∧ Dry w R w' := by
    by_cases hf : f = 0
    · subst hf
      refine ⟨_, ⟨20, none, 0, by decide, (h.fail 20).1, (h.fail 20).2⟩, (next_short w R ao 0 c 4 h (by omega)).mono ?_⟩
      rintro e w2 ⟨rfl, h2, k2⟩
      exact ⟨rfl, 20, none, 0, by decide, h2, k2⟩
    · refine ⟨w, ⟨f, ao, c, hf, h, Keep.refl _ _⟩, (next_bad w R ao 0 c f 4 h hf).mono ?_⟩
      rintro e w2 ⟨rfl, rfl⟩
      exact ⟨rfl, f, ao, c, hf, h, Keep.refl _ _⟩
  obtain ⟨_, _, hn⟩ := HN
  have HN := Lib.hid hn
  clear hn h
  go_enter Tryz.func155, Tryz.ntmps155
  go_wp2_with fail
  refine HN.out.mono ?_
  rintro e w2 ⟨rfl, h2⟩
  have H2 := Lib.hid h2
  clear h2
  go_wp2_with fail
  go_loopw [5, 20] (fun a i wr => Hid (a = .int .u64 0 ∧ i = .int .i64 0 ∧ wr = w2)) (fun _ i _ => 0)
  case atStart => exact Lib.hid ⟨rfl, rfl, rfl⟩
  case round =>
    obtain ⟨rfl, rfl, rfl⟩ := hrel.out
    clear hrel
    go_wp2_with fail
    go_ret
    exact ⟨rfl, H2.out⟩

set_option maxHeartbeats 4000000 in
theorem end_bad (w : World) (R : Nat) (ao : Option Addr) (n c : Nat) (f : Int) (h : RdAt w R ao n c f) (hf : f ≠ 0) :
    Calls Tryz.prog 156 #[.pointer (some ⟨R, 0, none⟩)] w fun r w' => r = .returned (.int .i64 f) ∧ w' = w := by
  obtain ⟨g0, g1, g2, gf⟩ := cells3 h
  have b1 : (f == 0) = false := by simp [hf]
  clear h
  go_enter Tryz.func156, Tryz.ntmps156
  go_wp2_with fail
  go_ret
  exact ⟨rfl, rfl⟩
end Go.Proofs.YtcaicgipibcicaaGreat
