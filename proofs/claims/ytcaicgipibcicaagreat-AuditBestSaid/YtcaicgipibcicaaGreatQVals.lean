/- Chapter 13: who fits whom. -/
import Derived.Test.YtcaicgipibcicaaGreatQFit5
import Derived.Deep.WholeRow
namespace Go.Proofs.YtcaicgipibcicaaGreat
set_option maxRecDepth 100000
set_option linter.unusedVariables false
set_option linter.unusedSimpArgs false
open Go.RowKit Go.Sort

theorem fits_eq (r : PReq) (d : PDrv) : (againstF r d == 0) = fitsF r d := by
  unfold againstF fitsF
  by_cases h1 : d.cls ≤ 7 <;> cases h2 : classF r.classes d.cls <;> by_cases h3 : r.seats ≤ d.seats <;> by_cases h4 : distF d.ax d.ay r.fx r.fy ≤ d.radius <;> simp [h1, h3, h4] <;> omega

set_option maxHeartbeats 4000000 in
theorem fits_any (w : World) (r : PReq) (d : PDrv) (hr : r.Ok) (hd : d.Ok) : Calls Tryz.prog 28 #[.agg #[.int .u8 r.i0, .int .u8 r.i1, .int .u8 r.i2, .int .u8 r.i3, .int .u8 r.i4, .int .u8 r.i5, .int .u8 r.i6, .int .u8 r.i7, .int .i16 r.fx, .int .i16 r.fy, .int .i16 r.tx, .int .i16 r.ty, .int .u8 r.seats, .int .u8 r.classes, .int .i64 r.base, .int .i64 r.ttl], .agg #[.int .u8 d.i0, .int .u8 d.i1, .int .u8 d.i2, .int .u8 d.i3, .int .u8 d.i4, .int .u8 d.i5, .int .u8 d.i6, .int .u8 d.i7, .int .i16 d.ax, .int .i16 d.ay, .int .u8 d.seats, .int .u8 d.cls, .int .i64 d.radius]] w fun e w' => e = .returned (.bool (fitsF r d)) ∧ Below w.heap.size w w' := by
  have HB := Lib.hid (((Below.refl w.heap.size w).alloc (Nat.le_refl _) (.cells #[.int .u8 r.i0, .int .u8 r.i1, .int .u8 r.i2, .int .u8 r.i3, .int .u8 r.i4, .int .u8 r.i5, .int .u8 r.i6, .int .u8 r.i7, .int .i16 r.fx, .int .i16 r.fy, .int .i16 r.tx, .int .i16 r.ty, .int .u8 r.seats, .int .u8 r.classes, .int .i64 r.base, .int .i64 r.ttl] 77)).alloc (by simp) (.cells #[.int .u8 d.i0, .int .u8 d.i1, .int .u8 d.i2, .int .u8 d.i3, .int .u8 d.i4, .int .u8 d.i5, .int .u8 d.i6, .int .u8 d.i7, .int .i16 d.ax, .int .i16 d.ay, .int .u8 d.seats, .int .u8 d.cls, .int .i64 d.radius] 81))
  have HA := Lib.hid (fun w => against_any w r d hr hd)
  have HE := Lib.hid (fits_eq r d)
  go_enter Tryz.func28, Tryz.ntmps28
  go_wp2_with fail
  generalize (w.alloc (.cells #[.int .u8 r.i0, .int .u8 r.i1, .int .u8 r.i2, .int .u8 r.i3, .int .u8 r.i4, .int .u8 r.i5, .int .u8 r.i6, .int .u8 r.i7, .int .i16 r.fx, .int .i16 r.fy, .int .i16 r.tx, .int .i16 r.ty, .int .u8 r.seats, .int .u8 r.classes, .int .i64 r.base, .int .i64 r.ttl] 77)).alloc (.cells #[.int .u8 d.i0, .int .u8 d.i1, .int .u8 d.i2, .int .u8 d.i3, .int .u8 d.i4, .int .u8 d.i5, .int .u8 d.i6, .int .u8 d.i7, .int .i16 d.ax, .int .i16 d.ay, .int .u8 d.seats, .int .u8 d.cls, .int .i64 d.radius] 81) = W at *
  refine (HA.out W).mono ?_
  rintro e w1 ⟨rfl, hb1⟩
  have HB1 := Lib.hid (below_two HB.out hb1)
  clear hb1
  generalize againstF r d = A at *
  go_wp2_with fail
  go_ret
  exact ⟨by rw [← HE.out]; rfl, HB1.out⟩
end Go.Proofs.YtcaicgipibcicaaGreat

/- Small sums and products; ticks. -/
namespace Go.Proofs.YtcaicgipibcicaaGreat
set_option maxRecDepth 100000
set_option linter.unusedVariables false
set_option linter.unusedSimpArgs false
open Go.RowKit Go.Sort

def tickF (n : Int) : Bool := decide (0 ≤ n ∧ n ≤ 1099511627776)
theorem tick_any (w : World) (n : Int) : Calls Tryz.prog 128 #[.int .i64 n] w fun e w' => e = .returned (.bool (tickF n)) ∧ w = w' := by
  by_cases h1 : 0 ≤ n
  · by_cases h2 : n ≤ 1099511627776
    · rw [show tickF n = true by simp [tickF, h1, h2]]
      go_enter Tryz.func128, Tryz.ntmps128
      go_wp2_with fail
      go_ret
      exact ⟨rfl, rfl⟩
    · rw [show tickF n = false by simp [tickF, h2]]
      go_enter Tryz.func128, Tryz.ntmps128
      go_wp2_with fail
      go_ret
      exact ⟨rfl, rfl⟩
  · rw [show tickF n = false by simp [tickF, h1]]
    go_enter Tryz.func128, Tryz.ntmps128
    go_wp2_with fail
    go_ret
    exact ⟨rfl, rfl⟩
theorem rtick_any (w : World) (n : Int) : Calls Tryz.prog 98 #[.int .i64 n] w fun e w' => e = .returned (.bool (tickF n)) ∧ w = w' := by
  by_cases h1 : 0 ≤ n
  · by_cases h2 : n ≤ 1099511627776
    · rw [show tickF n = true by simp [tickF, h1, h2]]
      go_enter Tryz.func98, Tryz.ntmps98
      go_wp2_with fail
      go_ret
      exact ⟨rfl, rfl⟩
    · rw [show tickF n = false by simp [tickF, h2]]
      go_enter Tryz.func98, Tryz.ntmps98
      go_wp2_with fail
      go_ret
      exact ⟨rfl, rfl⟩
  · rw [show tickF n = false by simp [tickF, h1]]
    go_enter Tryz.func98, Tryz.ntmps98
    go_wp2_with fail
    go_ret
    exact ⟨rfl, rfl⟩

theorem is_small (w : World) (n : Int) (h1 : 0 ≤ n) (h2 : n ≤ 4611686018427387903) : Calls Tryz.prog 190 #[.int .i64 n] w fun e w' => e = .returned (.bool true) ∧ w = w' := by
  go_enter Tryz.func190, Tryz.ntmps190
  go_wp2_with fail
  go_ret
  exact ⟨rfl, rfl⟩
theorem abs_small (w : World) (n : Int) (h1 : 0 ≤ n) : Calls Tryz.prog 191 #[.int .i64 n] w fun e w' => e = .returned (.tuple #[.int .i64 n, .bool true]) ∧ w = w' := by
  go_enter Tryz.func191, Tryz.ntmps191
  go_wp2_with fail
  go_ret2
  exact ⟨rfl, rfl⟩
theorem wrap_nat (n : Nat) (h : n < 18446744073709551616) : IntKind.u64.wrap (n : Int) = n := by
  unfold IntKind.wrap
  simp [IntKind.bits, IntKind.signed]
  omega

set_option maxHeartbeats 2000000 in
theorem mul64_small (w : World) (a b : Nat) (h1 : a < 4294967296) (h2 : b < 4294967296) : Calls Tryz.prog 192 #[.int .u64 a, .int .u64 b] w fun e w' => e = .returned (.tuple #[.int .u64 0, .int .u64 ((a * b : Nat) : Int)]) ∧ w = w' := by
  have hlt : a * b < 18446744073709551616 := by
    have := Nat.mul_le_mul (show a ≤ 4294967295 by omega) (show b ≤ 4294967295 by omega)
    omega
  have ha : bits BinOp.and IntKind.u64 (a : Int) 4294967295 = a := by
    have := u64_and_nat a 4294967295 (by omega) (by omega)
    rw [show ((4294967295 : Nat) : Int) = 4294967295 from rfl] at this
    rw [this, show (4294967295 : Nat) = 2 ^ 32 - 1 from rfl, Nat.and_two_pow_sub_one_eq_mod, Nat.mod_eq_of_lt (by omega)]
  have hb : bits BinOp.and IntKind.u64 (b : Int) 4294967295 = b := by
    have := u64_and_nat b 4294967295 (by omega) (by omega)
    rw [show ((4294967295 : Nat) : Int) = 4294967295 from rfl] at this
    rw [this, show (4294967295 : Nat) = 2 ^ 32 - 1 from rfl, Nat.and_two_pow_sub_one_eq_mod, Nat.mod_eq_of_lt (by omega)]
  have hda : (a : Int) / 4294967296 = 0 := by omega
  have hdb : (b : Int) / 4294967296 = 0 := by omega
  have hw : IntKind.u64.wrap ((a : Int) * (b : Int)) = ((a * b : Nat) : Int) := by
    rw [show (a : Int) * (b : Int) = ((a * b : Nat) : Int) by simp]
    exact wrap_nat _ hlt
  have hq : a * b / 4294967296 < 4294967296 := by omega
  go_enter Tryz.func192, Tryz.ntmps192
  go_wp2_with fail
  have hc : (a : Int) * (b : Int) / 4294967296 = ((a * b / 4294967296 : Nat) : Int) := by simp
  have hand : bits BinOp.and IntKind.u64 ((a * b / 4294967296 : Nat) : Int) 4294967295 = ((a * b / 4294967296 : Nat) : Int) := by
    have := u64_and_nat (a * b / 4294967296) 4294967295 (by omega) (by omega)
    rw [show ((4294967295 : Nat) : Int) = 4294967295 from rfl] at this
    rw [this, show (4294967295 : Nat) = 2 ^ 32 - 1 from rfl, Nat.and_two_pow_sub_one_eq_mod, Nat.mod_eq_of_lt (by omega)]
  have hx : IntKind.u64.wrap ((a : Int) * (b : Int) / 4294967296 / 4294967296 + IntKind.u64.wrap (bits BinOp.and IntKind.u64 ((a : Int) * (b : Int) / 4294967296) 4294967295) / 4294967296) = 0 := by
    rw [hc, hand, wrap_nat _ (by omega)]
    generalize a * b / 4294967296 = c at *
    have e : ((c : Int) / 4294967296 + (c : Int) / 4294967296) = ((0 : Nat) : Int) := by omega
    rw [e, wrap_nat 0 (by omega)]
    rfl
  go_ret2
  refine ⟨?_, rfl⟩
  show Ending.returned (Value.tuple #[.int .u64 _, .int .u64 _]) = _
  rw [hx]
  simp

set_option maxHeartbeats 2000000 in
theorem mul_small (w : World) (a b : Int) (h1 : 0 ≤ a) (h2 : a ≤ 4294967295) (h3 : 0 ≤ b) (h4 : b ≤ 1073741823) : Calls Tryz.prog 172 #[.int .i64 a, .int .i64 b] w fun e w' => e = .returned (.tuple #[.int .i64 (a * b), .bool true]) ∧ w = w' := by
  obtain ⟨x, rfl⟩ := Int.eq_ofNat_of_zero_le h1
  obtain ⟨y, rfl⟩ := Int.eq_ofNat_of_zero_le h3
  have hlt : x * y ≤ 4611686013213704192 := by
    have := Nat.mul_le_mul (show x ≤ 4294967295 by omega) (show y ≤ 1073741823 by omega)
    omega
  have HM := Lib.hid (fun w => mul64_small w x y (by omega) (by omega))
  have HXY := Lib.hid (show ((x : Int) * (y : Int)) = ((x * y : Nat) : Int) by simp)
  have HI1 := Lib.hid (fun w => is_small w x h1 (by omega))
  have HI2 := Lib.hid (fun w => is_small w y h3 (by omega))
  have HA1 := Lib.hid (fun w => abs_small w x h1)
  have HA2 := Lib.hid (fun w => abs_small w y h3)
  generalize x * y = z at *
  go_enter Tryz.func172, Tryz.ntmps172
  go_wp2_with fail
  refine (HI1.out _).mono ?_
  rintro e w1 ⟨rfl, rfl⟩
  go_wp2_with fail
  refine (HI2.out _).mono ?_
  rintro e w1 ⟨rfl, rfl⟩
  go_wp2_with fail
  refine (HA1.out _).mono ?_
  rintro e w1 ⟨rfl, rfl⟩
  go_wp2_with fail
  refine (HA2.out _).mono ?_
  rintro e w1 ⟨rfl, rfl⟩
  go_wp2_with fail
  refine (HM.out _).mono ?_
  rintro e w1 ⟨rfl, rfl⟩
  go_wp2_with fail
  go_ret2
  exact ⟨by rw [HXY.out]; rfl, rfl⟩
end Go.Proofs.YtcaicgipibcicaaGreat

/- Lists of structs in memory: how an element is loaded; drivers and requests as whole values. -/
namespace Go.Proofs.YtcaicgipibcicaaGreat
set_option maxRecDepth 100000
set_option linter.unusedVariables false
set_option linter.unusedSimpArgs false
open Go.RowKit Go.Sort

/-- At 'ao' the cells xs lie (nothing is said where there are none). -/
def RdC (w : World) (ao : Option Addr) (xs : List Value) : Prop :=
  xs = [] ∨ ∃ b o, ao = some ⟨b, o, none⟩ ∧ ∀ j u, xs[j]? = some u → w.cell? ⟨b, o + j, none⟩ = some u
theorem RdC.nil (w : World) (ao : Option Addr) : RdC w ao [] := .inl rfl
theorem RdC.keep {X : Nat → Prop} {w w' : World} {ao : Option Addr} {xs : List Value} (hr : RdC w ao xs) (h : Keep X w w') (hx : ∀ b o, ao = some ⟨b, o, none⟩ → ¬ X b) : RdC w' ao xs := by
  rcases hr with h0 | ⟨b, o, rfl, hc⟩
  · exact .inl h0
  · exact .inr ⟨b, o, rfl, fun j u hu => h.cell (hc j u hu) (hx b o rfl)⟩
theorem RdC.below {w w' : World} {ao : Option Addr} {xs : List Value} (hr : RdC w ao xs) (h : Below w.heap.size w w') : RdC w' ao xs :=
  hr.keep (Keep.of_below h (Nat.le_refl _) (fun _ => False)) (fun _ _ _ => id)
theorem RdC.place {w : World} {ao : Option Addr} {xs : List Value} (hr : RdC w ao xs) (h : 0 < xs.length) : ∃ b o, ao = some ⟨b, o, none⟩ ∧ ∀ j u, xs[j]? = some u → w.cell? ⟨b, o + j, none⟩ = some u := by
  rcases hr with h0 | h1
  · subst h0; simp at h
  · exact h1

/-- The cells of a list, element by element. -/
def cellsOf {α : Type} (f : α → List Value) (l : List α) : List Value := l.flatMap f
theorem cellsOf_length {α : Type} (f : α → List Value) (k : Nat) (hf : ∀ a, (f a).length = k) (l : List α) : (cellsOf f l).length = l.length * k := by
  induction l with
  | nil => simp [cellsOf]
  | cons a l ih => simp only [cellsOf, List.flatMap_cons, List.length_append, hf, List.length_cons] at ih ⊢; rw [ih, Nat.add_mul]; omega
theorem cellsOf_get {α : Type} (f : α → List Value) (k : Nat) (hf : ∀ a, (f a).length = k) (l : List α) : ∀ (i : Nat) (x : α), l[i]? = some x → ∀ j, j < k → (cellsOf f l)[i * k + j]? = (f x)[j]? := by
  induction l with
  | nil => intro i x h; simp at h
  | cons a l ih =>
    intro i x h j hj
    simp only [cellsOf, List.flatMap_cons] at ih ⊢
    cases i with
    | zero =>
      simp only [List.getElem?_cons_zero, Option.some.injEq] at h
      subst h
      rw [Nat.zero_mul, Nat.zero_add, List.getElem?_append_left (by rw [hf]; exact hj)]
    | succ i =>
      simp only [List.getElem?_cons_succ] at h
      rw [List.getElem?_append_right (by rw [hf, Nat.add_mul]; omega), hf]
      rw [show (i + 1) * k + j - k = i * k + j by rw [Nat.add_mul]; omega]
      exact ih i x h j hj
theorem cellsOf_snoc {α : Type} (f : α → List Value) (l : List α) (x : α) : cellsOf f (l ++ [x]) = cellsOf f l ++ f x := by simp [cellsOf]

/-- One cell of an element. -/
theorem rd_cell {α : Type} {f : α → List Value} {k : Nat} (hf : ∀ a, (f a).length = k) {w : World} {b o : Nat} {l : List α} (hr : ∀ j u, (cellsOf f l)[j]? = some u → w.cell? ⟨b, o + j, none⟩ = some u)
    {i : Nat} {x : α} (hx : l[i]? = some x) (j : Nat) (u : Value) (hu : (f x)[j]? = some u) : w.cell? ⟨b, o + i * k + j, none⟩ = some u := by
  have hj : j < k := by rw [← hf x]; exact (List.getElem?_eq_some_iff.1 hu).1
  have := hr (i * k + j) u (by rw [cellsOf_get f k hf l i x hx j hj]; exact hu)
  rw [Nat.add_assoc]
  exact this

/-- Some cells of an element, loaded at one time. -/
theorem rd_load {α : Type} {f : α → List Value} {k : Nat} (hf : ∀ a, (f a).length = k) {P : Program} {w : World} {b o : Nat} {l : List α} (hr : ∀ j u, (cellsOf f l)[j]? = some u → w.cell? ⟨b, o + j, none⟩ = some u)
    {i : Nat} {x : α} (hx : l[i]? = some x) (m : Nat) (hm : m ≤ k) (vs : Array Value) (hv : vs = ((f x).take m).toArray) :
    (loadCellsFrom ⟨b, o + i * k, none⟩ 0 m #[]).run P w = .ok vs w := by
  have hl : ((f x).take m).length = m := by rw [List.length_take, hf]; omega
  have := run_loadCells_list (P := P) (w := w) ⟨b, o + i * k, none⟩ ((f x).take m) (fun j v hv => by
    have hadd : (⟨b, o + i * k, none⟩ : Addr).add j = ⟨b, o + i * k + j, none⟩ := by unfold Addr.add; split <;> simp_all
    rw [hadd]
    have hj : j < m := by rw [← hl]; exact (List.getElem?_eq_some_iff.1 hv).1
    rw [List.getElem?_take, if_pos hj] at hv
    exact rd_cell hf hr hx j v hv)
  rw [hl] at this
  rw [hv]
  simpa [loadCells] using this

/-- The same in a world that a call of a region left. -/
theorem load_regrown {P : Program} {w : World} {a : Addr} {m : Nat} {vs : Array Value} (h : ∀ j, j < m → ∃ u, vs[j]? = some u ∧ w.cell? (a.add j) = some u) (hs : vs.size = m) (d : Nat) (os : Array Obj) :
    (loadCellsFrom a 0 m #[]).run P (grow (redrawn w d) os) = .ok vs (grow (redrawn w d) os) := by
  have := run_loadCells_list (P := P) (w := grow (redrawn w d) os) a vs.toList (fun j v hv => by
    have hj : j < m := by have := (List.getElem?_eq_some_iff.1 hv).1; simp at this; omega
    obtain ⟨u, hu, hc⟩ := h j hj
    have : u = v := by
      rw [Array.getElem?_toList] at hv
      rw [hu] at hv
      exact Option.some.inj hv
    subst this
    exact cell_regrown hc d os)
  have hl : vs.toList.length = m := by simp [hs]
  rw [hl] at this
  simpa [loadCells] using this

theorem load_at {P : Program} {α : Type} {f : α → List Value} {k : Nat} (hf : ∀ a, (f a).length = k) {w : World} {b o : Nat} {l : List α} (hr : RdC w (some ⟨b, o, none⟩) (cellsOf f l))
    {i : Nat} {x : α} (hx : l[i]? = some x) (m : Nat) (hm : m ≤ k) (vs : Array Value) (hv : vs = ((f x).take m).toArray) (d : Nat) (os : Array Obj) :
    (loadCellsFrom ⟨b, o + i * k, none⟩ 0 m #[]).run P (grow (redrawn w d) os) = .ok vs (grow (redrawn w d) os) := by
  by_cases hk : k = 0
  · subst hk
    have : m = 0 := by omega
    subst this
    subst hv
    simp [loadCellsFrom]
  · have hl := cellsOf_length f k hf l
    have hi := (List.getElem?_eq_some_iff.1 hx).1
    have hpos : 0 < (cellsOf f l).length := by rw [hl]; exact Nat.mul_pos (by omega) (by omega)
    obtain ⟨b', o', he, hc⟩ := (hr.below (below_regrown w d os)).place hpos
    simp only [Option.some.injEq, Addr.mk.injEq, and_true] at he
    obtain ⟨rfl, rfl⟩ := he
    exact rd_load hf hc hx m hm vs hv

def PReq.vals (r : PReq) : Array Value := #[.int .u8 r.i0, .int .u8 r.i1, .int .u8 r.i2, .int .u8 r.i3, .int .u8 r.i4, .int .u8 r.i5, .int .u8 r.i6, .int .u8 r.i7, .int .i16 r.fx, .int .i16 r.fy, .int .i16 r.tx, .int .i16 r.ty, .int .u8 r.seats, .int .u8 r.classes, .int .i64 r.base, .int .i64 r.ttl]
def PDrv.vals (d : PDrv) : Array Value := #[.int .u8 d.i0, .int .u8 d.i1, .int .u8 d.i2, .int .u8 d.i3, .int .u8 d.i4, .int .u8 d.i5, .int .u8 d.i6, .int .u8 d.i7, .int .i16 d.ax, .int .i16 d.ay, .int .u8 d.seats, .int .u8 d.cls, .int .i64 d.radius]
def PWait.vals (x : PWait) : Array Value := #[.int .u8 x.r.i0, .int .u8 x.r.i1, .int .u8 x.r.i2, .int .u8 x.r.i3, .int .u8 x.r.i4, .int .u8 x.r.i5, .int .u8 x.r.i6, .int .u8 x.r.i7, .int .i16 x.r.fx, .int .i16 x.r.fy, .int .i16 x.r.tx, .int .i16 x.r.ty, .int .u8 x.r.seats, .int .u8 x.r.classes, .int .i64 x.r.base, .int .i64 x.r.ttl, .int .i64 x.since, .int .i64 x.number]
def PIdle.vals (x : PIdle) : Array Value := #[.int .u8 x.d.i0, .int .u8 x.d.i1, .int .u8 x.d.i2, .int .u8 x.d.i3, .int .u8 x.d.i4, .int .u8 x.d.i5, .int .u8 x.d.i6, .int .u8 x.d.i7, .int .i16 x.d.ax, .int .i16 x.d.ay, .int .u8 x.d.seats, .int .u8 x.d.cls, .int .i64 x.d.radius, .int .i64 x.number]
theorem PWait.cells_length (x : PWait) : x.cells.length = 18 := rfl
theorem PIdle.cells_length (x : PIdle) : x.cells.length = 14 := rfl
theorem PEdge.cells_length (x : PEdge) : x.cells.length = 3 := rfl
theorem PPair.cells_length (x : PPair) : x.cells.length = 2 := rfl
theorem PWait.req_take (x : PWait) : x.r.vals = (x.cells.take 16).toArray := rfl
theorem PIdle.drv_take (x : PIdle) : x.d.vals = (x.cells.take 13).toArray := rfl
theorem PWait.vals_eq (x : PWait) : x.vals = (x.cells.take 18).toArray := rfl
theorem PIdle.vals_eq (x : PIdle) : x.vals = (x.cells.take 14).toArray := rfl

theorem fits_v (w : World) (r : PReq) (d : PDrv) (hr : r.Ok) (hd : d.Ok) : Calls Tryz.prog 28 #[.agg r.vals, .agg d.vals] w fun e w' => e = .returned (.bool (fitsF r d)) ∧ Below w.heap.size w w' :=
  fits_any w r d hr hd
end Go.Proofs.YtcaicgipibcicaaGreat
