/- Configurations and records that came in. -/
import Derived.Test.YtcaicgipibcicaaGreatQFlat
import Derived.Test.YtcaicgipibcicaaGreatQWr
import Derived.Test.YtcaicgipibcicaaGreatQAuRef3
import Derived.Deep.Grids
namespace Go.Proofs.YtcaicgipibcicaaGreat
set_option maxRecDepth 100000
set_option linter.unusedVariables false
set_option linter.unusedSimpArgs false
open Go.RowKit Go.ChangeShapes Go.WideShapes Go.Deep

theorem flat_conf : flatK Tryz.prog 8 23 = some [.i64, .i64, .i64, .i64, .i64] := by kernel_rfl
theorem flat_wait : flatK Tryz.prog 8 79 = some [.u8, .u8, .u8, .u8, .u8, .u8, .u8, .u8, .i16, .i16, .i16, .i16, .u8, .u8, .i64, .i64, .i64, .i64] := by kernel_rfl
theorem flat_idle : flatK Tryz.prog 8 83 = some [.u8, .u8, .u8, .u8, .u8, .u8, .u8, .u8, .i16, .i16, .u8, .u8, .i64, .i64] := by kernel_rfl
theorem flat_edge : flatK Tryz.prog 8 114 = some [.i64, .i64, .i64] := by kernel_rfl
theorem flat_pair : flatK Tryz.prog 8 69 = some [.i64, .i64] := by kernel_rfl
theorem flat_int : flatK Tryz.prog 8 3 = some [.i64] := by kernel_rfl

theorem wf_u8 {n : Int} (h : (Lit.int .u8 n).wf = true) : u8ok n := by
  simp [Lit.wf, IntKind.min, IntKind.max, IntKind.signed, IntKind.bits] at h
  exact h
theorem wf_i16 {n : Int} (h : (Lit.int .i16 n).wf = true) : i16ok n := by
  simp [Lit.wf, IntKind.min, IntKind.max, IntKind.signed, IntKind.bits] at h
  exact h
theorem wf_i64' {n : Int} (h : (Lit.int .i64 n).wf = true) : i64ok n := by
  simp [Lit.wf, IntKind.min, IntKind.max, IntKind.signed, IntKind.bits] at h
  exact h
def decWait (g : Nat → Int) : PWait := ⟨⟨g 0, g 1, g 2, g 3, g 4, g 5, g 6, g 7, g 8, g 9, g 10, g 11, g 12, g 13, g 14, g 15⟩, g 16, g 17⟩
def decIdle (g : Nat → Int) : PIdle := ⟨⟨g 0, g 1, g 2, g 3, g 4, g 5, g 6, g 7, g 8, g 9, g 10, g 11, g 12⟩, g 13⟩
def decEdge (g : Nat → Int) : PEdge := ⟨g 0, g 1, g 2⟩
def decPair (g : Nat → Int) : PPair := ⟨g 0, g 1⟩
def decConf (g : Nat → Int) : PConf := ⟨g 0, g 1, g 2, g 3, g 4⟩
theorem decWait_ok {g : Nat → Int} (h : FlatOk [.u8, .u8, .u8, .u8, .u8, .u8, .u8, .u8, .i16, .i16, .i16, .i16, .u8, .u8, .i64, .i64, .i64, .i64] g) : (decWait g).Ok :=
  ⟨⟨⟨wf_u8 (h 0 _ rfl), wf_u8 (h 1 _ rfl), wf_u8 (h 2 _ rfl), wf_u8 (h 3 _ rfl), wf_u8 (h 4 _ rfl), wf_u8 (h 5 _ rfl), wf_u8 (h 6 _ rfl), wf_u8 (h 7 _ rfl)⟩, ⟨wf_i16 (h 8 _ rfl), wf_i16 (h 9 _ rfl)⟩, ⟨wf_i16 (h 10 _ rfl), wf_i16 (h 11 _ rfl)⟩, wf_u8 (h 12 _ rfl), wf_u8 (h 13 _ rfl), wf_i64' (h 14 _ rfl), wf_i64' (h 15 _ rfl)⟩, wf_i64' (h 16 _ rfl), wf_i64' (h 17 _ rfl)⟩
theorem decIdle_ok {g : Nat → Int} (h : FlatOk [.u8, .u8, .u8, .u8, .u8, .u8, .u8, .u8, .i16, .i16, .u8, .u8, .i64, .i64] g) : (decIdle g).Ok :=
  ⟨⟨⟨wf_u8 (h 0 _ rfl), wf_u8 (h 1 _ rfl), wf_u8 (h 2 _ rfl), wf_u8 (h 3 _ rfl), wf_u8 (h 4 _ rfl), wf_u8 (h 5 _ rfl), wf_u8 (h 6 _ rfl), wf_u8 (h 7 _ rfl)⟩, ⟨wf_i16 (h 8 _ rfl), wf_i16 (h 9 _ rfl)⟩, wf_u8 (h 10 _ rfl), wf_u8 (h 11 _ rfl), wf_i64' (h 12 _ rfl)⟩, wf_i64' (h 13 _ rfl)⟩
theorem decEdge_ok {g : Nat → Int} (h : FlatOk [.i64, .i64, .i64] g) : (decEdge g).Ok := ⟨wf_i64' (h 0 _ rfl), wf_i64' (h 1 _ rfl), wf_i64' (h 2 _ rfl)⟩
theorem decPair_ok {g : Nat → Int} (h : FlatOk [.i64, .i64] g) : (decPair g).Ok := ⟨wf_i64' (h 0 _ rfl), wf_i64' (h 1 _ rfl)⟩
theorem decConf_ok {g : Nat → Int} (h : FlatOk [.i64, .i64, .i64, .i64, .i64] g) : (decConf g).Ok := ⟨wf_i64' (h 0 _ rfl), wf_i64' (h 1 _ rfl), wf_i64' (h 2 _ rfl), wf_i64' (h 3 _ rfl), wf_i64' (h 4 _ rfl)⟩

/-- A record that can be read, however long. -/
structure RV.Read (w : World) (v : RV) : Prop where
  wl : v.x.ws.length = v.wn
  wr : RdC w v.wo (cellsOf PWait.cells v.x.ws)
  kl : v.x.ds.length = v.kn
  kr : RdC w v.ko (cellsOf PIdle.cells v.x.ds)
  el : v.x.es.length = v.en
  er : RdC w v.eo (cellsOf PEdge.cells v.x.es)
  pl : v.x.ps.length = v.pn
  pr : RdC w v.po (cellsOf PPair.cells v.x.ps)
  yl : v.x.ys.length = v.yn
  yr : RdC w v.yo (cellsOf icell v.x.ys)
  zl : v.x.zs.length = v.zn
  zr : RdC w v.zo (cellsOf icell v.x.zs)
  ok : v.x.Ok
theorem RV.Read.in {w : World} {v : RV} (h : v.Read w) (hw : v.wn ≤ 1048576) (hk : v.kn ≤ 1048576) (he : v.en ≤ 1048576) (hp : v.pn ≤ 1048576) (hy : v.yn ≤ 1048576) (hz : v.zn ≤ 1048576) : v.In w :=
  ⟨h.wl, h.wr, hw, h.kl, h.kr, hk, h.el, h.er, he, h.pl, h.pr, hp, h.yl, h.yr, hy, h.zl, h.zr, hz, h.ok⟩

section
variable {H : Type} {enc : TypeId × Value → H} {W : World} {base fuel : Nat} {held : Bool}

theorem open_conf {cs : List Value} {x : DataW H × List MemPlace} (h : DataW.trod enc Tryz.prog W base (fun _ => true) held fuel 23 cs = some x) : ∃ c : PConf, cs = c.cells ∧ c.Ok := by
  obtain ⟨g, rfl, hg⟩ := flat_struct flat_conf h
  exact ⟨decConf g, rfl, decConf_ok hg⟩
theorem cells_slice {t e : TypeId} (ht : Tryz.prog.underlying t = some (.slice e)) {cs : List Value} {x : DataW H × List MemPlace} (h : DataW.trod enc Tryz.prog W base (fun _ => true) held fuel t cs = some x) : ∃ ao n c, cs = [.slice ao n c] := by
  rcases open_slice ht h with ⟨hc, _⟩ | ⟨a, len', cap', m, n', D, Pl, hc, _⟩
  · exact ⟨none, 0, 0, hc⟩
  · exact ⟨_, _, _, hc⟩
theorem nine_of {l : List Value} (h : l.length = 9) : ∃ a b c d e f g i j, l = [a, b, c, d, e, f, g, i, j] := by
  match l, h with
  | [a, b, c, d, e, f, g, i, j], _ => exact ⟨a, b, c, d, e, f, g, i, j, rfl⟩
theorem five_of' {α : Type} {l : List α} (h : l.length = 5) : ∃ a b c d e, l = [a, b, c, d, e] := by
  match l, h with
  | [a, b, c, d, e], _ => exact ⟨a, b, c, d, e, rfl⟩
theorem three_of {α : Type} {l : List α} (h : l.length = 3) : ∃ a b c, l = [a, b, c] := by
  match l, h with
  | [a, b, c], _ => exact ⟨a, b, c, rfl⟩

theorem size_rec : Tryz.prog.cellsOf 34 = 9 := by kernel_rfl
theorem size_int : Tryz.prog.cellsOf 3 = 1 := by kernel_rfl
theorem size_ws : Tryz.prog.cellsOf 24 = 1 := by kernel_rfl
theorem size_ds : Tryz.prog.cellsOf 25 = 1 := by kernel_rfl
theorem size_es : Tryz.prog.cellsOf 26 = 1 := by kernel_rfl
theorem size_ps : Tryz.prog.cellsOf 29 = 1 := by kernel_rfl
theorem size_is : Tryz.prog.cellsOf 30 = 1 := by kernel_rfl
theorem size_graph : Tryz.prog.cellsOf 28 = 3 := by kernel_rfl
theorem size_cert : Tryz.prog.cellsOf 32 = 3 := by kernel_rfl
theorem bytes_wait : Tryz.prog.bytesOf 79 = 56 := by kernel_rfl
theorem bytes_idle : Tryz.prog.bytesOf 83 = 32 := by kernel_rfl
theorem bytes_edge : Tryz.prog.bytesOf 114 = 24 := by kernel_rfl
theorem bytes_pair : Tryz.prog.bytesOf 69 = 16 := by kernel_rfl
theorem bytes_int : Tryz.prog.bytesOf 3 = 8 := by kernel_rfl

theorem open_rec {cs : List Value} {x : DataW H × List MemPlace} (h : DataW.trod enc Tryz.prog W base (fun _ => true) held fuel 34 cs = some x) :
    ∃ v : RV, cs = [.int .i64 v.x.tick, .slice v.wo v.wn v.wc, .slice v.ko v.kn v.kc, .int .i64 v.x.rows, .int .i64 v.x.cols, .slice v.eo v.en v.ec, .slice v.po v.pn v.pc, .slice v.yo v.yn v.yc, .slice v.zo v.zn v.zc] ∧ v.Read W ∧ (v.wn ≤ v.wc ∧ v.kn ≤ v.kc ∧ v.en ≤ v.ec ∧ v.pn ≤ v.pc ∧ v.yn ≤ v.yc ∧ v.zn ≤ v.zc) ∧
      (∀ B : Nat, (∀ n ∈ DataW.weights Tryz.prog 34 x.1, n ≤ B) → v.wn * 56 ≤ B ∧ v.kn * 32 ≤ B ∧ v.en * 24 ≤ B ∧ v.pn * 16 ≤ B ∧ v.yn * 8 ≤ B ∧ v.zn * 8 ≤ B) := by
  obtain ⟨xs, n, _, rfl, hl, hlen, hf⟩ := DataW.trod_struct Tryz.underlying34 h
  rw [size_rec] at hl
  obtain ⟨v0, v1, v2, v3, v4, v5, v6, v7, v8, rfl⟩ := nine_of hl
  obtain ⟨y0, y1, y2, y3, y4, rfl⟩ := five_of' (by simpa using hlen)
  have g0 := hf 0 _ rfl
  have g1 := hf 1 _ rfl
  have g2 := hf 2 _ rfl
  have g3 := hf 3 _ rfl
  have g4 := hf 4 _ rfl
  simp [size_int, size_ws, size_ds, size_graph, size_cert] at g0 g1 g2 g3 g4
  replace g0 : DataW.trod enc Tryz.prog W base (fun _ => true) held n 3 [v0] = some y0 := g0
  replace g1 : DataW.trod enc Tryz.prog W base (fun _ => true) held n 24 [v1] = some y1 := g1
  replace g2 : DataW.trod enc Tryz.prog W base (fun _ => true) held n 25 [v2] = some y2 := g2
  replace g3 : DataW.trod enc Tryz.prog W base (fun _ => true) held n 28 [v3, v4, v5] = some y3 := g3
  replace g4 : DataW.trod enc Tryz.prog W base (fun _ => true) held n 32 [v6, v7, v8] = some y4 := g4
  obtain ⟨tick, e0, _, ht⟩ := DataW.trod_int Tryz.underlying3 g0
  obtain ⟨gs, n3, _, h3, hl3, hlen3, hf3⟩ := DataW.trod_struct Tryz.underlying28 g3
  obtain ⟨z0, z1, z2, rfl⟩ := three_of (by simpa using hlen3)
  have q0 := hf3 0 _ rfl
  have q1 := hf3 1 _ rfl
  have q2 := hf3 2 _ rfl
  simp [size_int, size_es] at q0 q1 q2
  replace q0 : DataW.trod enc Tryz.prog W base (fun _ => true) held n3 3 [v3] = some z0 := q0
  replace q1 : DataW.trod enc Tryz.prog W base (fun _ => true) held n3 3 [v4] = some z1 := q1
  replace q2 : DataW.trod enc Tryz.prog W base (fun _ => true) held n3 26 [v5] = some z2 := q2
  obtain ⟨rows, e3, _, hr⟩ := DataW.trod_int Tryz.underlying3 q0
  obtain ⟨cols, e4, _, hcl⟩ := DataW.trod_int Tryz.underlying3 q1
  obtain ⟨cs4, n4, _, h4, hl4, hlen4, hf4⟩ := DataW.trod_struct Tryz.underlying32 g4
  obtain ⟨u0, u1, u2, rfl⟩ := three_of (by simpa using hlen4)
  have p0 := hf4 0 _ rfl
  have p1 := hf4 1 _ rfl
  have p2 := hf4 2 _ rfl
  simp [size_ps, size_is] at p0 p1 p2
  replace p0 : DataW.trod enc Tryz.prog W base (fun _ => true) held n4 29 [v6] = some u0 := p0
  replace p1 : DataW.trod enc Tryz.prog W base (fun _ => true) held n4 30 [v7] = some u1 := p1
  replace p2 : DataW.trod enc Tryz.prog W base (fun _ => true) held n4 30 [v8] = some u2 := p2
  obtain ⟨wo, wn, wc, ew⟩ := cells_slice Tryz.underlying24 g1
  obtain ⟨ko, kn, kc, ek⟩ := cells_slice Tryz.underlying25 g2
  obtain ⟨eo, en, ec, ee⟩ := cells_slice Tryz.underlying26 q2
  obtain ⟨po, pn, pc, ep⟩ := cells_slice Tryz.underlying29 p0
  obtain ⟨yo, yn, yc, ey⟩ := cells_slice Tryz.underlying30 p1
  obtain ⟨zo, zn, zc, ez⟩ := cells_slice Tryz.underlying30 p2
  cases e0; cases e3; cases e4; cases ew; cases ek; cases ee; cases ep; cases ey; cases ez
  obtain ⟨ws, w1, w2, w3, w4, _⟩ := flat_slice Tryz.underlying24 flat_wait (by decide) PWait.cells decWait (fun _ => rfl) g1
  obtain ⟨ds, d1, d2, d3, d4, _⟩ := flat_slice Tryz.underlying25 flat_idle (by decide) PIdle.cells decIdle (fun _ => rfl) g2
  obtain ⟨es, s1, s2, s3, s4, _⟩ := flat_slice Tryz.underlying26 flat_edge (by decide) PEdge.cells decEdge (fun _ => rfl) q2
  obtain ⟨ps, r1, r2, r3, r4, _⟩ := flat_slice Tryz.underlying29 flat_pair (by decide) PPair.cells decPair (fun _ => rfl) p0
  obtain ⟨ys, i1, i2, i3, i4, _⟩ := flat_slice Tryz.underlying30 flat_int (by decide) icell (fun g => g 0) (fun _ => rfl) p1
  obtain ⟨zs, j1, j2, j3, j4, _⟩ := flat_slice Tryz.underlying30 flat_int (by decide) icell (fun g => g 0) (fun _ => rfl) p2
  refine ⟨⟨⟨tick, ws, ds, rows, cols, es, ps, ys, zs⟩, wo, wn, wc, ko, kn, kc, eo, en, ec, po, pn, pc, yo, yn, yc, zo, zn, zc⟩, rfl,
    ⟨w1, w2, d1, d2, s1, s2, r1, r2, i1, i2, j1, j2, ⟨wf_i64' ht, fun a ha => ?_, fun a ha => ?_, wf_i64' hr, wf_i64' hcl, fun a ha => ?_, fun a ha => ?_, fun a ha => ?_, fun a ha => ?_⟩⟩, ⟨w4, d4, s4, r4, i4, j4⟩, fun B hB => ?_⟩
  · obtain ⟨g, rfl, hg⟩ := w3 a ha; exact decWait_ok hg
  · obtain ⟨g, rfl, hg⟩ := d3 a ha; exact decIdle_ok hg
  · obtain ⟨g, rfl, hg⟩ := s3 a ha; exact decEdge_ok hg
  · obtain ⟨g, rfl, hg⟩ := r3 a ha; exact decPair_ok hg
  · obtain ⟨g, rfl, hg⟩ := i3 a ha; exact wf_i64' (hg 0 _ rfl)
  · obtain ⟨g, rfl, hg⟩ := j3 a ha; exact wf_i64' (hg 0 _ rfl)
  · have hall : ∀ n ∈ DataW.weightsEach Tryz.prog [3, 24, 25, 28, 32] [y0.1, y1.1, y2.1, y3.1, y4.1], n ≤ B := fun n hn => hB n (by
      simp only [DataW.weights, Tryz.underlying34]
      exact hn)
    have hgr : ∀ n ∈ DataW.weightsEach Tryz.prog [3, 3, 26] [z0.1, z1.1, z2.1], n ≤ B := fun n hn => hall n (DataW.weights_mem_each (j := 3) rfl rfl n (by
      rw [h3]
      simp only [DataW.weights, Tryz.underlying28]
      exact hn))
    have hce : ∀ n ∈ DataW.weightsEach Tryz.prog [29, 30, 30] [u0.1, u1.1, u2.1], n ≤ B := fun n hn => hall n (DataW.weights_mem_each (j := 4) rfl rfl n (by
      rw [h4]
      simp only [DataW.weights, Tryz.underlying32]
      exact hn))
    have a1 := slice_weight Tryz.underlying24 g1 (fun n hn => hall n (DataW.weights_mem_each (j := 1) rfl rfl n hn))
    have a2 := slice_weight Tryz.underlying25 g2 (fun n hn => hall n (DataW.weights_mem_each (j := 2) rfl rfl n hn))
    have a3 := slice_weight Tryz.underlying26 q2 (fun n hn => hgr n (DataW.weights_mem_each (j := 2) rfl rfl n hn))
    have a4 := slice_weight Tryz.underlying29 p0 (fun n hn => hce n (DataW.weights_mem_each (j := 0) rfl rfl n hn))
    have a5 := slice_weight Tryz.underlying30 p1 (fun n hn => hce n (DataW.weights_mem_each (j := 1) rfl rfl n hn))
    have a6 := slice_weight Tryz.underlying30 p2 (fun n hn => hce n (DataW.weights_mem_each (j := 2) rfl rfl n hn))
    rw [bytes_wait] at a1
    rw [bytes_idle] at a2
    rw [bytes_edge] at a3
    rw [bytes_pair] at a4
    rw [bytes_int] at a5 a6
    exact ⟨a1, a2, a3, a4, a5, a6⟩
end
end Go.Proofs.YtcaicgipibcicaaGreat

/- Lists of records that came in. -/
namespace Go.Proofs.YtcaicgipibcicaaGreat
set_option maxRecDepth 100000
set_option linter.unusedVariables false
set_option linter.unusedSimpArgs false
open Go.RowKit Go.ChangeShapes Go.WideShapes Go.Deep

theorem bytes_rec : Tryz.prog.bytesOf 34 = 168 := by kernel_rfl
/-- What its lists weigh at most. -/
def RV.Light (B : Nat) (v : RV) : Prop := v.wn * 56 ≤ B ∧ v.kn * 32 ≤ B ∧ v.en * 24 ≤ B ∧ v.pn * 16 ≤ B ∧ v.yn * 8 ≤ B ∧ v.zn * 8 ≤ B
theorem choose_rv {len : Nat} {p : Nat → RV → Prop} (h : ∀ i, i < len → ∃ v, p i v) : ∃ G : Nat → RV, ∀ i, i < len → p i (G i) := by
  classical
  refine ⟨fun i => if hi : i < len then Classical.choose (h i hi) else ⟨⟨0, [], [], 0, 0, [], [], [], []⟩, none, 0, 0, none, 0, 0, none, 0, 0, none, 0, 0, none, 0, 0, none, 0, 0⟩, fun i hi => ?_⟩
  simp only [dif_pos hi]
  exact Classical.choose_spec (h i hi)
section
variable {H : Type} {enc : TypeId × Value → H} {W : World} {base fuel : Nat} {held : Bool}
theorem weights_all {P : Program} {e : TypeId} {B : Nat} : ∀ {l : List (DataW H)}, (∀ n ∈ DataW.weightsAll P e l, n ≤ B) → ∀ d ∈ l, ∀ n ∈ DataW.weights P e d, n ≤ B := by
  intro l
  induction l with
  | nil => intro _ d hd; cases hd
  | cons a l ih =>
    intro h d hd n hn
    simp only [DataW.weightsAll, List.mem_append] at h
    rcases List.mem_cons.1 hd with rfl | hd
    · exact h n (.inl hn)
    · exact ih (fun n hn => h n (.inr hn)) d hd n hn
theorem open_recs {ao : Option Addr} {len cap : Nat} {x : DataW H × List MemPlace} (h : DataW.trod enc Tryz.prog W base (fun _ => true) held fuel 43 [.slice ao len cap] = some x) {B : Nat} (hB : ∀ n ∈ DataW.weights Tryz.prog 43 x.1, n ≤ B) :
    ∃ vs : List RV, vs.length = len ∧ RdC W ao (cellsOf RV.cells vs) ∧ (∀ v ∈ vs, v.Read W ∧ v.Light B) ∧ len * 168 ≤ B := by
  have hw := slice_weight Tryz.underlying43 h hB
  rw [bytes_rec] at hw
  rcases open_slice Tryz.underlying43 h with ⟨hc, _⟩ | ⟨a, len', cap', m, n', D, Pl, hc, hb, hl, hm, hmm, rfl, hall⟩
  · simp at hc
    obtain ⟨rfl, rfl, rfl⟩ := hc
    exact ⟨[], rfl, .inl rfl, fun a ha => by simp at ha, hw⟩
  · simp at hc
    obtain ⟨rfl, rfl, rfl⟩ := hc
    simp only [if_true] at hmm
    subst hmm
    have hBe : ∀ d ∈ (List.range len).map D, ∀ n ∈ DataW.weights Tryz.prog 34 d, n ≤ B := by
      refine weights_all fun n hn => hB n ?_
      simp only [DataW.weights, Tryz.underlying43]
      exact List.mem_cons_of_mem _ (List.mem_append.2 (.inl hn))
    have each : ∀ i, i < len → ∃ v : RV, v.Read W ∧ v.Light B ∧ ∀ j u, v.cells[j]? = some u → W.cell? (a.add (i * 9 + j)) = some u := by
      intro i hi
      obtain ⟨cs', h1, h2⟩ := hall i (by omega)
      obtain ⟨v, rfl, hr, _, hwt⟩ := open_rec h2
      obtain ⟨_, hlen, hcs⟩ := World.cells?_some h1
      rw [size_rec] at hlen hcs
      refine ⟨v, hr, hwt B (hBe (D i) (List.mem_map.2 ⟨i, List.mem_range.2 hi, rfl⟩)), fun j u hu => ?_⟩
      have hj : j < 9 := (List.getElem?_eq_some_iff.1 hu).1
      have := hcs j hj
      rw [add_add] at this
      rw [this]
      exact hu
    obtain ⟨G, hG⟩ := choose_rv each
    refine ⟨(List.range len).map G, by simp, ?_, ?_, hw⟩
    · by_cases h0 : len = 0
      · subst h0; exact .inl (by simp [cellsOf])
      · obtain ⟨bk, off, spot⟩ := a
        have hc0 := (hG 0 (by omega)).2.2 0 _ rfl
        have hspot : spot = none := by simpa [Addr.add] using World.cell?_spot hc0
        subst hspot
        refine .inr ⟨bk, off, rfl, fun j u hu => ?_⟩
        have hj := (List.getElem?_eq_some_iff.1 hu).1
        rw [cellsOf_length _ 9 RV.cells_length, List.length_map, List.length_range] at hj
        have hq : j / 9 < len := by omega
        have hr : j % 9 < 9 := by omega
        have hjj : j / 9 * 9 + j % 9 = j := by omega
        have hget := cellsOf_get RV.cells 9 RV.cells_length ((List.range len).map G) (j / 9) (G (j / 9)) (by simp [hq]) (j % 9) hr
        rw [hjj, hu] at hget
        have := (hG _ hq).2.2 (j % 9) u hget.symm
        rw [hjj] at this
        have hadd : (⟨bk, off, none⟩ : Addr).add j = ⟨bk, off + j, none⟩ := by unfold Addr.add; split <;> simp_all
        rwa [hadd] at this
    · intro v hv
      obtain ⟨i, hi, rfl⟩ := List.mem_map.1 hv
      have := hG i (List.mem_range.1 hi)
      exact ⟨this.1, this.2.1⟩
theorem bytes_bool : Tryz.prog.bytesOf 4 = 1 := by kernel_rfl
theorem cells_bool : Tryz.prog.cellsOf 4 = 1 := by kernel_rfl
/-- A list of Bools that came in. -/
theorem open_bits {ao : Option Addr} {len cap : Nat} {x : DataW H × List MemPlace} (h : DataW.trod enc Tryz.prog W base (fun _ => true) held fuel 44 [.slice ao len cap] = some x) :
    ∃ bs : List Bool, bs.length = len ∧ RdC W ao (bs.map Value.bool) := by
  rcases open_bools Tryz.underlying44 Tryz.underlying4 cells_bool h with ⟨hc, _⟩ | ⟨a, len', cap', G, hc, hb, hl, hm, hx, hall⟩
  · simp at hc
    obtain ⟨rfl, rfl, rfl⟩ := hc
    exact ⟨[], rfl, .inl rfl⟩
  · simp at hc
    obtain ⟨rfl, rfl, rfl⟩ := hc
    refine ⟨(List.range len).map G, by simp, ?_⟩
    by_cases h0 : len = 0
    · subst h0; exact .inl (by simp)
    · obtain ⟨bk, off, spot⟩ := a
      have hc0 := hall 0 (by omega)
      have hspot : spot = none := by simpa [Addr.add] using World.cell?_spot hc0
      subst hspot
      refine .inr ⟨bk, off, rfl, fun j u hu => ?_⟩
      rw [List.map_map, List.getElem?_map] at hu
      have hj : j < len := by
        cases hq : (List.range len)[j]? with
        | none => rw [hq] at hu; cases hu
        | some q => simpa using (List.getElem?_eq_some_iff.1 hq).1
      rw [List.getElem?_range hj] at hu
      simp at hu
      subst hu
      have := hall j (by omega)
      have hadd : (⟨bk, off, none⟩ : Addr).add j = ⟨bk, off + j, none⟩ := by unfold Addr.add; split <;> simp_all
      rwa [hadd] at this
end
end Go.Proofs.YtcaicgipibcicaaGreat
