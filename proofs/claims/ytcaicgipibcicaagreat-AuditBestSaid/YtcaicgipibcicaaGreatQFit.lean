/- Append onto a row that is owned: in place, or into a new row, the old one as it was. -/
import Derived.Test.YtcaicgipibcicaaGreatQMem
import Derived.Test.YtcaicgipibcicaaGreatProg
import Derived.WalkKit
import Derived.WalkSpells
import Derived.Lib.Hide
namespace Go.Proofs.YtcaicgipibcicaaGreat
set_option maxRecDepth 100000
open Go.RowKit

section
variable {P : Program}

/-- APPEND, whatever is appended: some value that owns both, in some world that is the old one but for the value's own block. -/
theorem run_append_two (w : World) (t tx ty e : TypeId) (i : TypeInfo) (z : Value) (size bytes : Nat) (ht : P.underlying t = some (.slice e)) (hi : P.info? e = some i) (hz : i.zero = some z) (hsize : i.size = size) (hby : i.bytes = bytes)
    (hzs : z.cells.size = size) (v : Value) (n : Nat) (xs : List Value) (hown : Own w size v n xs) (x : Value) (m : Nat) (news : List Value) (hs : Src P size tx x m news w)
    (h63 : n + m ≤ maxLen) (hbytes : (n + m) * bytes ≤ 140737488355328) :
    ∃ v' w', (Builtin.append_ #[t, tx] ty #[v, x]).run P w = .ok v' w' ∧ Own w' size v' (n + m) (xs ++ news) ∧ ((v'.ownBlock = v.ownBlock ∧ Keep (fun k => v.ownBlock = some k) w w') ∨ (∃ g, v'.ownBlock = some g ∧ w.heap.size ≤ g) ∧ Keep (fun _ => False) w w') := by
  subst hsize
  subst hby
  have hmax : ((n + m : Nat) : Int) ≤ 9223372036854775807 := by simp only [maxLen] at h63; omega
  have hlen : (xs ++ news).length = (n + m) * i.size := by rw [List.length_append, hown.1, hs.newsLen, Nat.add_mul]
  -- the arm that grows
  have grow : ∀ (ba : Option Addr) (old : Nat), v = .slice ba n old → old < n + m → (Builtin.firstCells i.size n (.slice ba n old)).run P w.drew = .ok xs.toArray w.drew →
      ∃ v' w', (Builtin.append_ #[t, tx] ty #[v, x]).run P w = .ok v' w' ∧ Own w' i.size v' (n + m) (xs ++ news) ∧ ((v'.ownBlock = v.ownBlock ∧ Keep (fun k => v.ownBlock = some k) w w') ∨ (∃ g, v'.ownBlock = some g ∧ w.heap.size ≤ g) ∧ Keep (fun _ => False) w w') := by
    intro ba old hv hlt hold
    subst hv
    have hr := run_append_grow_src (P := P) w t tx ty e i z ht hi hz ba n old xs hold x m news hs hlt hmax (growslice_fits hlt hbytes)
    have hge := grownCap_ge w (n + m) old e
    have hcm := grownCap_le_maxLen w (n + m) old e h63
    refine ⟨_, _, hr, ⟨hlen, .inr ⟨w.heap.size, _, rfl, hge, hcm, ?_⟩⟩, .inr ⟨⟨_, rfl, Nat.le_refl _⟩, (Keep.drew _ w).trans (Keep.alloc _ _ _) (fun _ _ h => h) (fun _ _ h => h)⟩⟩
    refine Row.made w.drew _ e (0, 0) _ i.size _ ?_ (.inl rfl) ?_
    · simp only [Array.size_append, List.size_toArray, size_zeroCells, hzs, hlen, ← Nat.add_mul]
      congr 1
      omega
    · intro j u hu
      have hj := (List.getElem?_eq_some_iff.1 hu).1
      rw [Array.getElem?_append_left (by simpa using hj)]
      simpa using hu
  rcases hown.2 with ⟨rfl, rfl⟩ | ⟨g, cap, rfl, hnc, hcm, hrow⟩
  · have hx : xs = [] := List.eq_nil_of_length_eq_zero (by simpa using hown.1)
    subst hx
    by_cases hm : m = 0
    · subst hm
      have hn : news = [] := List.eq_nil_of_length_eq_zero (by simpa using hs.newsLen)
      subst hn
      refine ⟨.slice none 0 0, w, ?_, by simpa using Own.nil w i.size, .inl ⟨rfl, Keep.refl _ w⟩⟩
      have hc := hs.cells
      rcases hs.kind with ⟨e', hk⟩ | hk <;> simp [Builtin.append_, run_underlying ht, run_underlying hk, sizeOf, typeInfo, hi, hs.len, hc]
    · exact grow none 0 rfl (by omega) (run_firstCells_none w.drew i.size 0 0 0)
  · by_cases hroom : n + m ≤ cap
    · have hle : (n + m) * i.size ≤ cap * i.size := Nat.mul_le_mul_right _ hroom
      rw [Nat.add_mul] at hle
      have hnl := hs.newsLen
      have hr := run_append_room_src (P := P) w t tx ty e i ht hi g 0 n cap x m news hs hroom (fun j hj => by simp only [Nat.zero_add]; exact hrow.there _ (by omega)) (fun j hj => by simp only [Nat.zero_add]; exact hrow.free _ (by omega))
      simp only [Nat.zero_add] at hr
      refine ⟨_, _, hr, ⟨hlen, .inr ⟨g, cap, rfl, hroom, hcm, ?_⟩⟩, .inl ⟨rfl, (Keep.setCells w g _ news).mono (fun k _ h => by subst h; rfl)⟩⟩
      have hK := Keep.setCells w g (n * i.size) news
      refine ⟨Nat.lt_of_lt_of_le hrow.lt hK.size, fun j u hu => ?_, fun j hj => World.isSome_setCells g news _ w _ (hrow.there j hj), fun j hj => by rw [World.frozen?_setCells]; exact hrow.free j hj⟩
      by_cases hj : j < xs.length
      · rw [World.cell?_setCells_out g news _ w ⟨g, j, none⟩ (fun _ _ => .inl (by rw [← hown.1]; exact hj))]
        rw [List.getElem?_append_left hj] at hu
        exact hrow.cell j u hu
      · rw [List.getElem?_append_right (by omega)] at hu
        have hj2 := (List.getElem?_eq_some_iff.1 hu).1
        have := World.cell?_setCells_in g news (n * i.size) w (fun k hk => hrow.there _ (by omega)) (j - xs.length) hj2
        have e1 : n * i.size + (j - xs.length) = j := by rw [← hown.1]; omega
        rw [e1] at this
        rw [this]
        simpa [List.getElem?_eq_getElem hj2] using hu
    · refine grow (some ⟨g, 0, none⟩) cap rfl (by omega) (run_firstCells_some w.drew i.size n ⟨g, 0, none⟩ n cap xs hown.1 ?_)
      intro j u hu
      have hadd : (⟨g, 0, none⟩ : Addr).add j = ⟨g, j, none⟩ := by unfold Addr.add; split <;> simp_all
      rw [hadd]
      exact hrow.cell j u hu

/-- The same, as a law of the walk, where something is there then. -/
theorem wpList_append_two {w : World} {ops : Array Oper} {rest : List Oper} {o : Oper} {a : Act} {Q : Exit → Act → World → Prop} (hgd : o.guard = none) (s x : Operand) (t tx : TypeId)
    (ho : o.op = .call { callee := .builtin .append, args := #[s, x], argTypes := #[t, tx] })
    (e : TypeId) (i : TypeInfo) (z : Value) (size bytes : Nat) (ht : P.underlying t = some (.slice e)) (hi : P.info? e = some i) (hz : i.zero = some z) (hsize : i.size = size) (hby : i.bytes = bytes) (hzs : z.cells.size = size)
    (v : Value) (n : Nat) (xs : List Value) (hs : a.eval s = v) (hown : Own w size v n xs) (xv : Value) (m : Nat) (news : List Value) (hx : a.eval x = xv) (hsrc : Src P size tx xv m news w)
    (hpos : 0 < n + m) (h63 : n + m ≤ maxLen) (hbytes : (n + m) * bytes ≤ 140737488355328)
    (h : ∀ g cap w', Own w' size (.slice (some ⟨g, 0, none⟩) (n + m) cap) (n + m) (xs ++ news) → ((v.ownBlock = some g ∧ Keep (fun k => v.ownBlock = some k) w w') ∨ (w.heap.size ≤ g ∧ Keep (fun _ => False) w w')) → wpList P ops Q rest (a.put o.dst (.slice (some ⟨g, 0, none⟩) (n + m) cap)) w') :
    wpList P ops Q (o :: rest) a w := by
  refine wpList_plain hgd fun K hK => ?_
  obtain ⟨v', w', hr, h2, h3⟩ := run_append_two (P := P) w t tx o.type e i z size bytes ht hi hz hsize hby hzs v n xs hown xv m news hsrc h63 hbytes
  unfold Oper.wp execOp
  simp only [ho, resolve, invoke, builtin, Sem.run_bind, Sem.run_pure, Result.andThen_ok, List.map_toArray, List.map_cons, List.map_nil, hs, hx, hr]
  obtain ⟨g, cap, rfl⟩ : ∃ g cap, v' = .slice (some ⟨g, 0, none⟩) (n + m) cap := by
    rcases h2.2 with ⟨_, h0⟩ | ⟨g, cap, h0, _⟩
    · omega
    · exact ⟨g, cap, h0⟩
  refine hK _ _ (h g cap w' h2 ?_)
  rcases h3 with ⟨h3, h4⟩ | ⟨⟨g', h3, h4⟩, h5⟩
  · exact .inl ⟨h3.symm, h4⟩
  · simp [Value.ownBlock] at h3
    subst h3
    exact .inr ⟨h4, h5⟩
end

/-- The value v can be read: nil, or a slice from the head of a row; n elements, the cells xs. -/
def Sees (w : World) (v : Value) (n : Nat) (xs : List Value) : Prop :=
  (v = .slice none 0 0 ∧ n = 0) ∨ ∃ g cap, v = .slice (some ⟨g, 0, none⟩) n cap ∧ g < w.heap.size ∧ ∀ j u, xs[j]? = some u → w.cell? ⟨g, j, none⟩ = some u
theorem Own.sees {w : World} {size : Nat} {v : Value} {n : Nat} {xs : List Value} (h : Own w size v n xs) : Sees w v n xs := by
  rcases h.2 with h | ⟨g, cap, rfl, hn, hm, hr⟩
  · exact .inl h
  · exact .inr ⟨g, cap, rfl, hr.lt, hr.cell⟩
theorem Sees.keep {X : Nat → Prop} {w w' : World} {v : Value} {n : Nat} {xs : List Value} (h : Sees w v n xs) (k : Keep X w w') (hx : ∀ g, v.ownBlock = some g → ¬ X g) : Sees w' v n xs := by
  rcases h with h | ⟨g, cap, rfl, hg, hc⟩
  · exact .inl h
  · exact .inr ⟨g, cap, rfl, Nat.lt_of_lt_of_le hg k.size, fun j u hu => k.cell (hc j u hu) (hx g rfl)⟩
theorem Sees.shape {w : World} {v : Value} {n : Nat} {xs : List Value} (h : Sees w v n xs) : ∃ ao cap, v = .slice ao n cap ∧ (0 < n → ∃ g, ao = some ⟨g, 0, none⟩ ∧ g < w.heap.size ∧ ∀ j u, xs[j]? = some u → w.cell? ⟨g, j, none⟩ = some u) := by
  rcases h with ⟨rfl, rfl⟩ | ⟨g, cap, rfl, hg, hc⟩
  · exact ⟨none, 0, rfl, fun h => absurd h (Nat.lt_irrefl 0)⟩
  · exact ⟨_, cap, rfl, fun _ => ⟨g, rfl, hg, hc⟩⟩
end Go.Proofs.YtcaicgipibcicaaGreat

/- The api's values as plain data. No program in sight. -/
namespace Go.Proofs.YtcaicgipibcicaaGreat
open Go.RowKit

structure PConf where
  q : Int
  d : Int
  w : Int
  ttl : Int
  b : Int
structure PReq where
  i0 : Int
  i1 : Int
  i2 : Int
  i3 : Int
  i4 : Int
  i5 : Int
  i6 : Int
  i7 : Int
  fx : Int
  fy : Int
  tx : Int
  ty : Int
  seats : Int
  classes : Int
  base : Int
  ttl : Int
structure PWait where
  r : PReq
  since : Int
  number : Int
structure PDrv where
  i0 : Int
  i1 : Int
  i2 : Int
  i3 : Int
  i4 : Int
  i5 : Int
  i6 : Int
  i7 : Int
  ax : Int
  ay : Int
  seats : Int
  cls : Int
  radius : Int
structure PIdle where
  d : PDrv
  number : Int
structure PEdge where
  r : Int
  c : Int
  w : Int
structure PPair where
  r : Int
  c : Int

/-- Numbers that fit their kinds. -/
def u8ok (x : Int) : Prop := 0 ≤ x ∧ x ≤ 255
def i16ok (x : Int) : Prop := -32768 ≤ x ∧ x ≤ 32767
def i64ok (x : Int) : Prop := -9223372036854775808 ≤ x ∧ x ≤ 9223372036854775807
structure PReq.Ok (r : PReq) : Prop where
  id : u8ok r.i0 ∧ u8ok r.i1 ∧ u8ok r.i2 ∧ u8ok r.i3 ∧ u8ok r.i4 ∧ u8ok r.i5 ∧ u8ok r.i6 ∧ u8ok r.i7
  from_ : i16ok r.fx ∧ i16ok r.fy
  to_ : i16ok r.tx ∧ i16ok r.ty
  seats : u8ok r.seats
  classes : u8ok r.classes
  base : i64ok r.base
  ttl : i64ok r.ttl
structure PDrv.Ok (d : PDrv) : Prop where
  id : u8ok d.i0 ∧ u8ok d.i1 ∧ u8ok d.i2 ∧ u8ok d.i3 ∧ u8ok d.i4 ∧ u8ok d.i5 ∧ u8ok d.i6 ∧ u8ok d.i7
  at_ : i16ok d.ax ∧ i16ok d.ay
  seats : u8ok d.seats
  cls : u8ok d.cls
  radius : i64ok d.radius
structure PWait.Ok (w : PWait) : Prop where
  r : w.r.Ok
  since : i64ok w.since
  number : i64ok w.number
structure PIdle.Ok (x : PIdle) : Prop where
  d : x.d.Ok
  number : i64ok x.number

def PWait.cells (w : PWait) : List Value := [.int .u8 w.r.i0, .int .u8 w.r.i1, .int .u8 w.r.i2, .int .u8 w.r.i3, .int .u8 w.r.i4, .int .u8 w.r.i5, .int .u8 w.r.i6, .int .u8 w.r.i7, .int .i16 w.r.fx, .int .i16 w.r.fy, .int .i16 w.r.tx, .int .i16 w.r.ty, .int .u8 w.r.seats, .int .u8 w.r.classes, .int .i64 w.r.base, .int .i64 w.r.ttl, .int .i64 w.since, .int .i64 w.number]
def PIdle.cells (x : PIdle) : List Value := [.int .u8 x.d.i0, .int .u8 x.d.i1, .int .u8 x.d.i2, .int .u8 x.d.i3, .int .u8 x.d.i4, .int .u8 x.d.i5, .int .u8 x.d.i6, .int .u8 x.d.i7, .int .i16 x.d.ax, .int .i16 x.d.ay, .int .u8 x.d.seats, .int .u8 x.d.cls, .int .i64 x.d.radius, .int .i64 x.number]
def PEdge.cells (e : PEdge) : List Value := [.int .i64 e.r, .int .i64 e.c, .int .i64 e.w]
def PPair.cells (p : PPair) : List Value := [.int .i64 p.r, .int .i64 p.c]

/-! what chapter 13 says -/
/-- Is a number from 1 to most? -/
def amongF (n most : Int) : Bool := decide (1 ≤ n ∧ n ≤ most)
def configF (c : PConf) : Bool := amongF c.q 64 && amongF c.d 64 && amongF c.w 1048576 && amongF c.ttl 1048576 && amongF c.b 1048576
/-- May a request be, by a configuration that may be? -/
def mayF (c : PConf) (r : PReq) : Bool := decide (r.seats ≠ 0) && decide (r.classes ≠ 0) && decide (0 ≤ r.base ∧ r.base ≤ c.b) && amongF r.ttl c.ttl
def driverF (d : PDrv) : Bool := decide (d.seats ≠ 0) && decide (d.cls ≤ 7) && decide (0 ≤ d.radius ∧ d.radius ≤ 131070)
def distF (ax ay bx by_ : Int) : Int := ((ax - bx).natAbs : Int) + ((ay - by_).natAbs : Int)
/-- Is a class among them? -/
def classF (classes cls : Int) : Bool := decide (classes.toNat / 2 ^ cls.toNat % 2 = 1)
def fitsF (r : PReq) (d : PDrv) : Bool := decide (d.cls ≤ 7) && classF r.classes d.cls && decide (r.seats ≤ d.seats) && decide (distF d.ax d.ay r.fx r.fy ≤ d.radius)
end Go.Proofs.YtcaicgipibcicaaGreat

/- Chapter 13 in the program and in the reference: configurations, requests, drivers. -/
namespace Go.Proofs.YtcaicgipibcicaaGreat
set_option maxRecDepth 100000
open Go.RowKit

theorem among_any (w : World) (n most : Int) : Calls Tryz.prog 70 #[.int .i64 n, .int .i64 most] w fun e w' => e = .returned (.bool (amongF n most)) ∧ w = w' := by
  by_cases h1 : 1 ≤ n
  · by_cases h2 : n ≤ most
    · rw [show amongF n most = true by simp [amongF, h1, h2]]
      go_enter Tryz.func70, Tryz.ntmps70
      go_wp2_with fail
      go_ret
      exact ⟨rfl, rfl⟩
    · rw [show amongF n most = false by simp [amongF, h2]]
      go_enter Tryz.func70, Tryz.ntmps70
      go_wp2_with fail
      go_ret
      exact ⟨rfl, rfl⟩
  · rw [show amongF n most = false by simp [amongF, h1]]
    go_enter Tryz.func70, Tryz.ntmps70
    go_wp2_with fail
    go_ret
    exact ⟨rfl, rfl⟩
theorem within_any (w : World) (n low high : Int) : Calls Tryz.prog 93 #[.int .i64 n, .int .i64 low, .int .i64 high] w fun e w' => e = .returned (.bool (decide (low ≤ n ∧ n ≤ high))) ∧ w = w' := by
  by_cases h1 : low ≤ n
  · by_cases h2 : n ≤ high
    · rw [show decide (low ≤ n ∧ n ≤ high) = true by simp [h1, h2]]
      go_enter Tryz.func93, Tryz.ntmps93
      go_wp2_with fail
      go_ret
      exact ⟨rfl, rfl⟩
    · rw [show decide (low ≤ n ∧ n ≤ high) = false by simp [h2]]
      go_enter Tryz.func93, Tryz.ntmps93
      go_wp2_with fail
      go_ret
      exact ⟨rfl, rfl⟩
  · rw [show decide (low ≤ n ∧ n ≤ high) = false by simp [h1]]
    go_enter Tryz.func93, Tryz.ntmps93
    go_wp2_with fail
    go_ret
    exact ⟨rfl, rfl⟩
end Go.Proofs.YtcaicgipibcicaaGreat
