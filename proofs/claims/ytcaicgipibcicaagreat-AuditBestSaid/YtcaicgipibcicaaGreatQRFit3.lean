/- Which pairs fit, as a plain list. No program in sight. -/
import Derived.Test.YtcaicgipibcicaaGreatQVals
import Derived.Test.YtcaicgipibcicaaGreatQCertF
namespace Go.Proofs.YtcaicgipibcicaaGreat
open Go.RowKit

/-- Does the element of the one list fit that of the other one? -/
def fitAt (ws : List PWait) (ds : List PIdle) (i k : Nat) : Bool := match ws[i]?, ds[k]? with
  | some w, some d => fitsF w.r d.d
  | _, _ => false
theorem fitAt_eq {ws : List PWait} {ds : List PIdle} {i k : Nat} {w : PWait} {d : PIdle} (hw : ws[i]? = some w) (hd : ds[k]? = some d) : fitAt ws ds i k = fitsF w.r d.d := by simp [fitAt, hw, hd]
def pairsCol (ws : List PWait) (ds : List PIdle) (i k : Nat) : List PPair := ((List.range k).filter (fun c => fitAt ws ds i c)).map fun (c : Nat) => (⟨(i : Int), (c : Int)⟩ : PPair)
def pairsRow (ws : List PWait) (ds : List PIdle) (n : Nat) : List PPair := (List.range n).flatMap fun i => pairsCol ws ds i ds.length
def pairsF (ws : List PWait) (ds : List PIdle) : List PPair := pairsRow ws ds ws.length
theorem pairsCol_zero (ws : List PWait) (ds : List PIdle) (i : Nat) : pairsCol ws ds i 0 = [] := rfl
theorem pairsCol_yes {ws : List PWait} {ds : List PIdle} {i k : Nat} (h : fitAt ws ds i k = true) : pairsCol ws ds i (k + 1) = pairsCol ws ds i k ++ [⟨(i : Int), (k : Int)⟩] := by
  simp [pairsCol, List.range_succ, h]
theorem pairsCol_no {ws : List PWait} {ds : List PIdle} {i k : Nat} (h : fitAt ws ds i k = false) : pairsCol ws ds i (k + 1) = pairsCol ws ds i k := by
  simp [pairsCol, List.range_succ, h]
theorem pairsRow_zero (ws : List PWait) (ds : List PIdle) : pairsRow ws ds 0 = [] := rfl
theorem pairsRow_succ (ws : List PWait) (ds : List PIdle) (i : Nat) : pairsRow ws ds (i + 1) = pairsRow ws ds i ++ pairsCol ws ds i ds.length := by
  simp [pairsRow, List.range_succ]
theorem pairsCol_len (ws : List PWait) (ds : List PIdle) (i k : Nat) : (pairsCol ws ds i k).length ≤ k := by
  unfold pairsCol
  rw [List.length_map]
  exact Nat.le_trans (List.length_filter_le _ _) (by simp)
theorem pairsRow_len (ws : List PWait) (ds : List PIdle) (n : Nat) : (pairsRow ws ds n).length ≤ n * ds.length := by
  induction n with
  | zero => simp [pairsRow]
  | succ n ih => rw [pairsRow_succ, List.length_append, Nat.add_mul]; have := pairsCol_len ws ds n ds.length; omega
def pairsAt (ws : List PWait) (ds : List PIdle) (i k : Nat) : List PPair := pairsRow ws ds i ++ pairsCol ws ds i k
theorem pairsAt_len (ws : List PWait) (ds : List PIdle) (i k : Nat) : (pairsAt ws ds i k).length ≤ i * ds.length + k := by
  rw [pairsAt, List.length_append]
  have := pairsRow_len ws ds i
  have := pairsCol_len ws ds i k
  omega
theorem pairsAt_yes {ws : List PWait} {ds : List PIdle} {i k : Nat} (h : fitAt ws ds i k = true) : pairsAt ws ds i (k + 1) = pairsAt ws ds i k ++ [⟨(i : Int), (k : Int)⟩] := by
  rw [pairsAt, pairsAt, pairsCol_yes h, List.append_assoc]
theorem pairsAt_no {ws : List PWait} {ds : List PIdle} {i k : Nat} (h : fitAt ws ds i k = false) : pairsAt ws ds i (k + 1) = pairsAt ws ds i k := by
  rw [pairsAt, pairsAt, pairsCol_no h]
theorem pairsAt_next (ws : List PWait) (ds : List PIdle) (i : Nat) : pairsAt ws ds (i + 1) 0 = pairsAt ws ds i ds.length := by
  rw [pairsAt, pairsAt, pairsCol_zero, List.append_nil, pairsRow_succ]
theorem pairsAt_all (ws : List PWait) (ds : List PIdle) : pairsAt ws ds ws.length 0 = pairsF ws ds := by
  rw [pairsAt, pairsCol_zero, List.append_nil]; rfl
end Go.Proofs.YtcaicgipibcicaaGreat

/- Records as plain data, and what chapters 20 and 26 say of one. No program in sight. -/
namespace Go.Proofs.YtcaicgipibcicaaGreat
open Go.RowKit

structure PRec where
  tick : Int
  ws : List PWait
  ds : List PIdle
  rows : Int
  cols : Int
  es : List PEdge
  ps : List PPair
  ys : List Int
  zs : List Int
instance : DecidableEq PEdge := fun a b =>
  decidable_of_iff (a.r = b.r ∧ a.c = b.c ∧ a.w = b.w) ⟨fun ⟨h1, h2, h3⟩ => by cases a; cases b; simp_all, fun h => by subst h; exact ⟨rfl, rfl, rfl⟩⟩
structure PEdge.Ok (e : PEdge) : Prop where
  r : i64ok e.r
  c : i64ok e.c
  w : i64ok e.w
structure PPair.Ok (p : PPair) : Prop where
  r : i64ok p.r
  c : i64ok p.c
structure PConf.Ok (c : PConf) : Prop where
  q : i64ok c.q
  d : i64ok c.d
  w : i64ok c.w
  ttl : i64ok c.ttl
  b : i64ok c.b
structure PRec.Ok (x : PRec) : Prop where
  tick : i64ok x.tick
  ws : ∀ w ∈ x.ws, w.Ok
  ds : ∀ d ∈ x.ds, d.Ok
  rows : i64ok x.rows
  cols : i64ok x.cols
  es : ∀ e ∈ x.es, e.Ok
  ps : ∀ p ∈ x.ps, p.Ok
  ys : ∀ n ∈ x.ys, i64ok n
  zs : ∀ n ∈ x.zs, i64ok n

/-! numbers that rise -/
def prevW (ws : List PWait) (i : Nat) : Int := match i with
  | 0 => -1
  | j + 1 => match ws[j]? with
    | none => -1
    | some x => x.number
def prevD (ds : List PIdle) (i : Nat) : Int := match i with
  | 0 => -1
  | j + 1 => match ds[j]? with
    | none => -1
    | some x => x.number
theorem prevW_succ {ws : List PWait} {i : Nat} {x : PWait} (h : ws[i]? = some x) : prevW ws (i + 1) = x.number := by simp [prevW, h]
theorem prevD_succ {ds : List PIdle} {i : Nat} {x : PIdle} (h : ds[i]? = some x) : prevD ds (i + 1) = x.number := by simp [prevD, h]
def waitAt (tick : Int) (ws : List PWait) (i : Nat) : Bool := match ws[i]? with
  | none => true
  | some x => decide (prevW ws i < x.number ∧ 0 ≤ x.since ∧ x.since ≤ tick)
def idleAt (ds : List PIdle) (i : Nat) : Bool := match ds[i]? with
  | none => true
  | some x => decide (prevD ds i < x.number)
theorem waitAt_eq {tick : Int} {ws : List PWait} {i : Nat} {x : PWait} (h : ws[i]? = some x) : waitAt tick ws i = decide (prevW ws i < x.number ∧ 0 ≤ x.since ∧ x.since ≤ tick) := by simp only [waitAt, h]
theorem idleAt_eq {ds : List PIdle} {i : Nat} {x : PIdle} (h : ds[i]? = some x) : idleAt ds i = decide (prevD ds i < x.number) := by simp only [idleAt, h]
def sizesB (x : PRec) : Bool := decide (1 ≤ x.tick ∧ x.tick ≤ 1099511627776 ∧ x.ws.length ≤ 64 ∧ x.ds.length ≤ 64)
def waitsB (x : PRec) : Bool := allF x.ws.length (waitAt x.tick x.ws)
def idlesB (x : PRec) : Bool := allF x.ds.length (idleAt x.ds)
def shapeB (x : PRec) : Bool := graphF x.rows x.cols x.es && decide (x.rows = x.ws.length) && decide (x.cols = x.ds.length)
/-- The record's error. -/
def recE (x : PRec) : Int :=
  if !sizesB x then 1 else if !waitsB x then 1 else if !idlesB x then 1 else if !shapeB x then 170 else if !matchF x.es x.ps then 180 else if !lengthsB x.rows x.cols x.ys x.zs then 1 else 0
theorem recE_good {x : PRec} (h : recE x = 0) : sizesB x = true ∧ waitsB x = true ∧ idlesB x = true ∧ shapeB x = true ∧ matchF x.es x.ps = true ∧ lengthsB x.rows x.cols x.ys x.zs = true := by
  unfold recE at h
  cases h1 : sizesB x <;> cases h2 : waitsB x <;> cases h3 : idlesB x <;> cases h4 : shapeB x <;> cases h5 : matchF x.es x.ps <;> cases h6 : lengthsB x.rows x.cols x.ys x.zs <;> simp_all

/-! chapter 26 -/
def sameID (a b : PReq) : Bool := decide (a.i0 = b.i0 ∧ a.i1 = b.i1 ∧ a.i2 = b.i2 ∧ a.i3 = b.i3 ∧ a.i4 = b.i4 ∧ a.i5 = b.i5 ∧ a.i6 = b.i6 ∧ a.i7 = b.i7)
def idR (a : PReq) : List Int := [a.i0, a.i1, a.i2, a.i3, a.i4, a.i5, a.i6, a.i7]
def idD (a : PDrv) : List Int := [a.i0, a.i1, a.i2, a.i3, a.i4, a.i5, a.i6, a.i7]
/-- Does an id stand in none of those ahead? -/
def newAt (ids : List (List Int)) (i : Nat) : Bool := match ids[i]? with
  | none => true
  | some x => allF i (fun k => match ids[k]? with | none => true | some y => decide (y ≠ x))
def onceF (ids : List (List Int)) : Bool := allF ids.length (newAt ids)
def askAt (c : PConf) (tick : Int) (ws : List PWait) (i : Nat) : Bool := match ws[i]? with
  | none => true
  | some w => decide (checkE c w.r = 0) && decide (tick ≤ w.since + w.r.ttl)
def mayAt (ds : List PIdle) (i : Nat) : Bool := match ds[i]? with
  | none => true
  | some d => decide (driverE d.d = 0)
def listsF (c : PConf) (x : PRec) : Bool :=
  decide ((x.ws.length : Int) ≤ c.q ∧ (x.ds.length : Int) ≤ c.d) && allF x.ws.length (askAt c x.tick x.ws) && allF x.ds.length (mayAt x.ds) && onceF (x.ws.map fun w => idR w.r) && onceF (x.ds.map fun d => idD d.d)

/-! graphs -/
def weightsF (c : PConf) (now : Int) (ws : List PWait) : List (Int × Int) := ws.map fun w => weightE c now w (checkE c w.r)
/-- The first error among the weights. -/
def weighE (c : PConf) (now : Int) : List PWait → Int
  | [] => 0
  | w :: l => if (weightE c now w (checkE c w.r)).2 ≠ 0 then (weightE c now w (checkE c w.r)).2 else weighE c now l
def driversE : List PIdle → Int
  | [] => 0
  | d :: l => if driverE d.d ≠ 0 then driverE d.d else driversE l
def edgesF (c : PConf) (now : Int) (ws : List PWait) (ds : List PIdle) : List PEdge := (pairsF ws ds).map fun p => ⟨p.r, p.c, match ws[p.r.toNat]? with | none => 0 | some w => (weightE c now w (checkE c w.r)).1⟩
def buildE (c : PConf) (now : Int) (ws : List PWait) (ds : List PIdle) : Int :=
  if configE c ≠ 0 then configE c else if !tickF now then 1 else if 64 < ws.length ∨ 64 < ds.length then 3 else if weighE c now ws ≠ 0 then weighE c now ws else driversE ds
def closesB (c : PConf) (tick : Int) : Bool := decide (1 ≤ tick ∧ tick ≤ 1099511627776) && decide (tick % c.w = 0)
def graftB (c : PConf) (x : PRec) : Bool := decide (buildE c x.tick x.ws x.ds = 0) && decide (x.rows = x.ws.length) && decide (x.cols = x.ds.length) && decide (edgesF c x.tick x.ws x.ds = x.es)
/-- What is said of a record. -/
def auditE (c : PConf) (x : PRec) : Int :=
  if configE c ≠ 0 then 160 else if !closesB c x.tick then 262 else if recE x ≠ 0 then recE x else if !listsF c x then 1 else if !graftB c x then 260 else certE x.rows x.cols x.es x.ps x.ys x.zs
end Go.Proofs.YtcaicgipibcicaaGreat

/- Chapter 13 in the reference: how far two points are apart; requests and drivers that may be. -/
namespace Go.Proofs.YtcaicgipibcicaaGreat
set_option maxRecDepth 100000
set_option linter.unusedVariables false
set_option linter.unusedSimpArgs false
open Go.RowKit Go.Sort

theorem size_abs (w : World) (n : Int) (h1 : -65536 ≤ n) (h2 : n ≤ 65536) : Calls Tryz.prog 217 #[.int .i64 n] w fun e w' => e = .returned (.int .i64 (n.natAbs : Int)) ∧ w = w' := by
  by_cases h : n < 0
  · go_enter Tryz.func217, Tryz.ntmps217
    go_wp2_with fail
    go_ret
    refine ⟨?_, rfl⟩
    show Ending.returned (Value.int .i64 _) = _
    congr 2
    omega
  · go_enter Tryz.func217, Tryz.ntmps217
    go_wp2_with fail
    go_ret
    refine ⟨?_, rfl⟩
    show Ending.returned (Value.int .i64 _) = _
    congr 2
    omega

theorem rdist_any (w : World) (ax ay bx by_ : Int) (h1 : i16ok ax) (h2 : i16ok ay) (h3 : i16ok bx) (h4 : i16ok by_) :
    Calls Tryz.prog 195 #[.agg #[.int .i16 ax, .int .i16 ay], .agg #[.int .i16 bx, .int .i16 by_]] w fun e w' => e = .returned (.int .i64 (distF ax ay bx by_)) ∧ Below w.heap.size w w' := by
  have HB := Lib.hid (((Below.refl w.heap.size w).alloc (Nat.le_refl _) (.cells #[.int .i16 ax, .int .i16 ay] 75)).alloc (by simp) (.cells #[.int .i16 bx, .int .i16 by_] 75))
  obtain ⟨a1, a2⟩ := h1
  obtain ⟨a3, a4⟩ := h2
  obtain ⟨a5, a6⟩ := h3
  obtain ⟨a7, a8⟩ := h4
  have n1 : (((ax - bx).natAbs : Nat) : Int) ≤ 65535 := by omega
  have n2 : (((ay - by_).natAbs : Nat) : Int) ≤ 65535 := by omega
  have n3 : (0 : Int) ≤ (((ax - bx).natAbs : Nat) : Int) := by omega
  have n4 : (0 : Int) ≤ (((ay - by_).natAbs : Nat) : Int) := by omega
  have HX := Lib.hid (fun w => (size_abs w (ax - bx) (by omega) (by omega)).same)
  have HY := Lib.hid (fun w => (size_abs w (ay - by_) (by omega) (by omega)).same)
  have HD := Lib.hid (show distF ax ay bx by_ = (((ax - bx).natAbs : Nat) : Int) + (((ay - by_).natAbs : Nat) : Int) from rfl)
  generalize (((ax - bx).natAbs : Nat) : Int) = X at *
  generalize (((ay - by_).natAbs : Nat) : Int) = Y at *
  go_enter Tryz.func195, Tryz.ntmps195
  go_wp2_with fail
  go_quiet (first | (go_at_call_of 217 (ax - bx); exact Calls.quiet_of_same (HX.out _)) | (go_at_call_of 217 (ay - by_); exact Calls.quiet_of_same (HY.out _)))
  go_wp2_with fail
  go_ret
  exact ⟨by rw [HD.out]; rfl, below_drewN HB.out _⟩

set_option maxHeartbeats 2000000 in
theorem rdriver_any (w : World) (d : PDrv) (hd : d.Ok) : Calls Tryz.prog 97 #[.agg #[.int .u8 d.i0, .int .u8 d.i1, .int .u8 d.i2, .int .u8 d.i3, .int .u8 d.i4, .int .u8 d.i5, .int .u8 d.i6, .int .u8 d.i7, .int .i16 d.ax, .int .i16 d.ay, .int .u8 d.seats, .int .u8 d.cls, .int .i64 d.radius]] w fun e w' => e = .returned (.int .i64 (driverE d)) ∧ Below w.heap.size w w' := by
  have HB := Lib.hid ((Below.refl w.heap.size w).alloc (Nat.le_refl _) (.cells #[.int .u8 d.i0, .int .u8 d.i1, .int .u8 d.i2, .int .u8 d.i3, .int .u8 d.i4, .int .u8 d.i5, .int .u8 d.i6, .int .u8 d.i7, .int .i16 d.ax, .int .i16 d.ay, .int .u8 d.seats, .int .u8 d.cls, .int .i64 d.radius] 81))
  obtain ⟨s1, s2⟩ := hd.seats
  obtain ⟨s3, s4⟩ := hd.cls
  clear hd
  by_cases a1 : d.seats ≤ 0
  · have HM := Lib.hid (show driverE d = 1 by
      have : d.seats = 0 := by omega
      simp [driverE, driverF, this])
    go_enter Tryz.func97, Tryz.ntmps97
    go_wp2_with fail
    go_ret
    exact ⟨by rw [HM.out]; rfl, HB.out⟩
  have a1' : 0 < d.seats := by omega
  have h3 : decide (d.seats ≠ 0) = true := by simp; omega
  have H3 := Lib.hid h3
  clear a1 h3
  by_cases a2 : 7 < d.cls
  · have HM := Lib.hid (show driverE d = 1 by
      have : decide (d.cls ≤ 7) = false := by simp; omega
      simp [driverE, driverF, this])
    go_enter Tryz.func97, Tryz.ntmps97
    go_wp2_with fail
    go_ret
    exact ⟨by rw [HM.out]; rfl, HB.out⟩
  have a2' : d.cls ≤ 7 := by omega
  have H2 := Lib.hid (show decide (d.cls ≤ 7) = true by simp; omega)
  clear a2
  go_enter Tryz.func97, Tryz.ntmps97
  go_wp2_with fail
  refine (within_any _ _ _ _).mono ?_
  rintro e w1 ⟨rfl, rfl⟩
  cases h1 : decide (0 ≤ d.radius ∧ d.radius ≤ 131070) with
  | true =>
    have HM := Lib.hid (show driverE d = 0 by simp only [driverE, driverF, h1, H2.out, H3.out]; rfl)
    clear h1
    go_wp2_with fail
    go_ret
    exact ⟨by rw [HM.out]; rfl, HB.out⟩
  | false =>
    have HM := Lib.hid (show driverE d = 1 by simp only [driverE, driverF, h1, H2.out, H3.out]; rfl)
    clear h1
    go_wp2_with fail
    go_ret
    exact ⟨by rw [HM.out]; rfl, HB.out⟩
end Go.Proofs.YtcaicgipibcicaaGreat

/- Chapter 13 in the reference: the classes as an array. -/
namespace Go.Proofs.YtcaicgipibcicaaGreat
set_option maxRecDepth 100000
set_option linter.unusedVariables false
set_option linter.unusedSimpArgs false
open Go.RowKit Go.Sort

def clAt (b k j : Nat) : Value := .bool (decide (j < k) && classF (b : Int) (j : Int))
def clArr (b k : Nat) : Array Value := #[clAt b k 0, clAt b k 1, clAt b k 2, clAt b k 3, clAt b k 4, clAt b k 5, clAt b k 6, clAt b k 7]
theorem clArr_zero (b : Nat) : clArr b 0 = #[.bool false, .bool false, .bool false, .bool false, .bool false, .bool false, .bool false, .bool false] := by simp [clArr, clAt]
theorem clArr_size (b k : Nat) : (clArr b k).size = 8 := rfl
theorem clArr_at (b k j : Nat) (hj : j < 8) : (clArr b k)[j]? = some (clAt b k j) := by
  rcases (show j = 0 ∨ j = 1 ∨ j = 2 ∨ j = 3 ∨ j = 4 ∨ j = 5 ∨ j = 6 ∨ j = 7 by omega) with rfl | rfl | rfl | rfl | rfl | rfl | rfl | rfl <;> rfl
theorem clAt_lt (b k j : Nat) (h : j ≠ k) : clAt b (k + 1) j = clAt b k j := by
  unfold clAt
  have : decide (j < k + 1) = decide (j < k) := by
    by_cases hj : j < k
    · simp [hj]; omega
    · simp [hj]; omega
  rw [this]
theorem clAt_eq (b k : Nat) : clAt b (k + 1) k = .bool (classF (b : Int) (k : Int)) := by simp [clAt]
theorem clArr_succ (b k : Nat) (hk : k < 8) (v : Bool) (hv : v = classF (b : Int) (k : Int)) : (clArr b k).setIfInBounds k (.bool v) = clArr b (k + 1) := by
  subst hv
  apply Array.ext_getElem?
  intro j
  rw [Array.getElem?_setIfInBounds]
  by_cases hj : j < 8
  · rw [clArr_at b (k + 1) j hj]
    by_cases h : k = j
    · subst h
      rw [if_pos rfl, if_pos (by rw [clArr_size]; exact hk), clAt_eq]
    · rw [if_neg h, clArr_at b k j hj, clAt_lt b k j (fun e => h e.symm)]
  · have h1 : (clArr b (k + 1))[j]? = none := Array.getElem?_eq_none (by rw [clArr_size]; omega)
    have h2 : (clArr b k)[j]? = none := Array.getElem?_eq_none (by rw [clArr_size]; omega)
    rw [h1, h2, if_neg (by omega)]
theorem class_mod (b k : Nat) : (((b / 2 ^ k : Nat) : Int) % 2 == 1) = classF (b : Int) (k : Int) := by
  have h0 : classF (b : Int) (k : Int) = decide (b / 2 ^ k % 2 = 1) := by
    unfold classF
    simp only [Int.toNat_natCast]
  rw [h0]
  rcases Nat.mod_two_eq_zero_or_one (b / 2 ^ k) with h | h
  · have : ((b / 2 ^ k : Nat) : Int) % 2 = 0 := by omega
    rw [this, h]; rfl
  · have : ((b / 2 ^ k : Nat) : Int) % 2 = 1 := by omega
    rw [this, h]; rfl
theorem clArr_all (b : Nat) : clArr b 8 = #[.bool (classF b 0), .bool (classF b 1), .bool (classF b 2), .bool (classF b 3), .bool (classF b 4), .bool (classF b 5), .bool (classF b 6), .bool (classF b 7)] := rfl
theorem Keep.setCell (w : World) (g o : Nat) (v : Value) : Keep (· = g) w (w.setCell ⟨g, o, none⟩ v) := Keep.setCells w g o [v]
theorem row_set {w : World} {D : Nat} {cs : Array Value} {t : TypeId} (h : w.heap[D]? = some (.cells cs t (0, 0))) (i : Nat) (v : Value) : (w.setCell ⟨D, i, none⟩ v).heap[D]? = some (.cells (cs.setIfInBounds i v) t (0, 0)) := heap_setCell_same w D i cs t v h

structure ClRel (w : World) (b k : Nat) (H0 H1 : Nat) (wr : World) : Prop where
  res : wr.heap[H0]? = some (.cells #[.bool false, .bool false, .bool false, .bool false, .bool false, .bool false, .bool false, .bool false] 274 (0, 0))
  arr : wr.heap[H1]? = some (.cells (clArr b k) 274 (0, 0))
  below : Below w.heap.size w wr
theorem arr8 {w : World} {H : Nat} {a0 a1 a2 a3 a4 a5 a6 a7 : Value} {t : TypeId} (h : w.heap[H]? = some (.cells #[a0, a1, a2, a3, a4, a5, a6, a7] t (0, 0))) :
    w.cell? ⟨H, 0, none⟩ = some a0 ∧ w.cell? ⟨H, 1, none⟩ = some a1 ∧ w.cell? ⟨H, 2, none⟩ = some a2 ∧ w.cell? ⟨H, 3, none⟩ = some a3 ∧ w.cell? ⟨H, 4, none⟩ = some a4 ∧ w.cell? ⟨H, 5, none⟩ = some a5 ∧ w.cell? ⟨H, 6, none⟩ = some a6 ∧ w.cell? ⟨H, 7, none⟩ = some a7 ∧ (∀ j, w.frozen? ⟨H, j, none⟩ = false) := by
  refine ⟨?_, ?_, ?_, ?_, ?_, ?_, ?_, ?_, fun j => frozen_of_row w H j _ t h⟩ <;> rw [cell_of_row w H _ _ t (0, 0) h] <;> rfl

set_option maxHeartbeats 4000000 in
theorem classes_any (w : World) (b : Nat) (hb : b < 256) : Calls Tryz.prog 194 #[.int .u8 b] w fun e w' => e = .returned (.agg (clArr b 8)) ∧ Below w.heap.size w w' := by
  go_enter Tryz.func194, Tryz.ntmps194
  go_wp2_with fail
  have hst : ClRel w b 0 w.heap.size (w.heap.size + 1) ((w.alloc (.cells #[.bool false, .bool false, .bool false, .bool false, .bool false, .bool false, .bool false, .bool false] 274)).alloc (.cells #[.bool false, .bool false, .bool false, .bool false, .bool false, .bool false, .bool false, .bool false] 274)) := by
    refine ⟨?_, ?_, ((Below.refl w.heap.size w).alloc (Nat.le_refl _) _).alloc (by simp) _⟩
    · exact (Keep.alloc (fun _ => False) _ _).old (heap_alloc_new w _) id
    · have := heap_alloc_new (w.alloc (.cells #[.bool false, .bool false, .bool false, .bool false, .bool false, .bool false, .bool false, .bool false] 274)) (.cells #[.bool false, .bool false, .bool false, .bool false, .bool false, .bool false, .bool false, .bool false] 274)
      rw [clArr_zero]
      simpa using this
  have HST := Lib.hid hst
  clear hst
  have hH : w.heap.size < w.heap.size + 1 := by omega
  have hge : w.heap.size ≤ w.heap.size := by omega
  generalize hW : (w.alloc (.cells #[.bool false, .bool false, .bool false, .bool false, .bool false, .bool false, .bool false, .bool false] 274)).alloc (.cells #[.bool false, .bool false, .bool false, .bool false, .bool false, .bool false, .bool false, .bool false] 274) = W at *
  generalize hH1 : w.heap.size + 1 = H1 at *
  generalize hH0 : w.heap.size = H0 at hH ⊢
  have HH0 := Lib.hid hH0
  clear hW hH1 hH0 hge
  have hst2 : ∃ k N : Nat, (Value.int .i64 (b : Int)) = .int .i64 (N : Int) ∧ (Value.int .i64 (0 : Int)) = .int .i64 (k : Int) ∧ k ≤ 8 ∧ N < 256 ∧ N = b / 2 ^ k ∧ ClRel w b k H0 H1 W := ⟨0, b, rfl, rfl, by omega, hb, by simp, by rw [← HH0.out]; exact HST.out⟩
  have HST2 := Lib.hid hst2
  clear hst2
  go_loopw [4, 5] (fun n i wr => Hid (∃ k N : Nat, n = .int .i64 (N : Int) ∧ i = .int .i64 (k : Int) ∧ k ≤ 8 ∧ N < 256 ∧ N = b / 2 ^ k ∧ ClRel w b k H0 H1 wr)) (fun _ i _ => 8 - (intOf i).toNat)
  case atStart => exact HST2
  case round =>
    obtain ⟨k, N, rfl, rfl, hk, hN, hNe, hr⟩ := hrel.out
    clear hrel
    have HR := Lib.hid hr
    have HN := Lib.hid hNe
    clear hr hNe
    by_cases hlt : k < 8
    · have hc : wr.cell? ⟨H1, k, none⟩ = some (.bool false) := by
        rw [cell_of_row wr H1 k _ _ (0, 0) HR.out.arr, clArr_at b k k hlt]
        simp [clAt]
      have hf : wr.frozen? ⟨H1, k, none⟩ = false := frozen_of_row wr H1 k _ _ HR.out.arr
      have hm := class_mod b k
      rw [← HN.out] at hm
      have HM := Lib.hid hm
      have hk1 := Keep.setCell wr H1 k (.bool ((N : Int) % 2 == 1))
      have hrow := row_set HR.out.arr k (.bool ((N : Int) % 2 == 1))
      rw [clArr_succ b k hlt _ hm] at hrow
      have HREL := Lib.hid (show ClRel w b (k + 1) H0 H1 (wr.setCell ⟨H1, k, none⟩ (.bool ((N : Int) % 2 == 1))) from
        ⟨hk1.old HR.out.res (by omega), hrow, HR.out.below.trans (hk1.below HR.out.below.size (fun i hi h => by have := HH0.out; omega))⟩)
      clear hm hk1 hrow
      go_wp2_with fail
      go_roundw
      case rel => exact Lib.hid ⟨k + 1, N / 2, by go_num, by go_num, by omega, by omega, by rw [HN.out, Nat.div_div_eq_div_mul, Nat.pow_succ], HREL.out⟩
      case measure => simp [intOf]; omega
    · obtain rfl : 8 = k := by omega
      have hb := HR.out.arr
      rw [clArr_all] at hb
      have hr := HR.out.res
      have hB := HR.out.below
      obtain ⟨k0, k1, k2, k3, k4, k5, k6, k7, k8⟩ := arr8 hb
      obtain ⟨j0, j1, j2, j3, j4, j5, j6, j7, j8⟩ := arr8 hr
      clear hr
      have HB := Lib.hid hB
      have HH := Lib.hid (clArr_all b)
      have HLT : ∀ i, i < H0 → ¬ i = H0 := fun i hi => by omega
      have HL := Lib.hid HLT
      clear hb hB HLT
      go_wp2_with fail
      have e1 : ∀ (W : World) (a : Array Value) (i : Nat) (v : Value), W.heap[H0]? = some (.cells a 274 (0, 0)) → (W.setCell ⟨H0, i, none⟩ v).heap[H0]? = some (.cells (a.setIfInBounds i v) 274 (0, 0)) := fun W a i v h => row_set h i v
      have hres := e1 _ _ 7 (.bool (classF b 7)) (e1 _ _ 6 (.bool (classF b 6)) (e1 _ _ 5 (.bool (classF b 5)) (e1 _ _ 4 (.bool (classF b 4)) (e1 _ _ 3 (.bool (classF b 3)) (e1 _ _ 2 (.bool (classF b 2)) (e1 _ _ 1 (.bool (classF b 1)) (e1 _ _ 0 (.bool (classF b 0)) HR.out.res)))))))
      have e2 : ∀ (W : World) (i : Nat) (v : Value), Below w.heap.size w W → Below w.heap.size w (W.setCell ⟨H0, i, none⟩ v) := fun W i v h => h.trans ((Keep.setCell W H0 i v).below h.size (fun k hk h => by have := HH0.out; omega))
      have hbel := e2 _ 7 (.bool (classF b 7)) (e2 _ 6 (.bool (classF b 6)) (e2 _ 5 (.bool (classF b 5)) (e2 _ 4 (.bool (classF b 4)) (e2 _ 3 (.bool (classF b 3)) (e2 _ 2 (.bool (classF b 2)) (e2 _ 1 (.bool (classF b 1)) (e2 _ 0 (.bool (classF b 0)) HR.out.below)))))))
      refine bodyPost_ret (results_cell_row rfl _ _ H0 _ _ _ _ rfl hres Tryz.underlying274 rfl (by kernel_rfl)) rfl ?_
      exact ⟨rfl, hbel⟩
end Go.Proofs.YtcaicgipibcicaaGreat
