/- The marks behind a twin. Printed by wip/genmarks.py. -/
import Derived.Test.YtcaicgipibcicaaGreatQLoadQ
import Derived.Deep.MidRow
namespace Go.Proofs.YtcaicgipibcicaaGreat
set_option maxRecDepth 100000
set_option linter.unusedVariables false
set_option linter.unusedSimpArgs false
open Go.RowKit Go.Sort

/-- What a function hands back that lies in a box of its own. -/
theorem results_cell {P : Program} {fn : Func} {tmps : Array Value} {w : World} (a : Nat) (t : TypeId) (hr : fn.results = #[.cell a t]) (H : Nat) (ha : tmps.getD a undef = .pointer (some ⟨H, 0, none⟩)) (cs : List Value) (V : Array Value) (hV : cs.toArray = V) (d : TypeDesc)
    (hc : ∀ j u, cs[j]? = some u → w.cell? ⟨H, 0 + j, none⟩ = some u) (hu : P.underlying t = some d) (hd : (match d with | .struct _ | .array _ _ => true | _ => false) = true) (hi : (P.info? t).map (·.size) = some cs.length) : (results fn tmps).run P w = .ok (.agg V) w := by
  have h := run_loadVar_elem (P := P) w H 0 t cs d hc hu hd hi
  rw [hV] at h
  unfold results
  rw [hr]
  rw [Array.getD_eq_getD_getElem?] at ha
  simp [ha, asAddr, Sem.run_bind, h]
theorem results_box {P : Program} {fn : Func} {tmps : Array Value} {w : World} (a : Nat) (t : TypeId) (hr : fn.results = #[.cell a t]) (H : Nat) (ha : tmps.getD a undef = .pointer (some ⟨H, 0, none⟩)) (V : Array Value) (t' : TypeId) (hb : w.heap[H]? = some (.cells V t' (0, 0))) (d : TypeDesc)
    (hu : P.underlying t = some d) (hd : (match d with | .struct _ | .array _ _ => true | _ => false) = true) (hi : (P.info? t).map (·.size) = some V.size) : (results fn tmps).run P w = .ok (.agg V) w :=
  results_cell a t hr H ha V.toList V (by simp) d (fun j u hu => by rw [Nat.zero_add, cell_of_row w H j V t' (0, 0) hb]; simpa using hu) hu hd (by simpa using hi)

def markWc : List Value := [.int .u8 0, .int .u8 0, .int .u8 0, .int .u8 0, .int .u8 0, .int .u8 0, .int .u8 0, .int .u8 0, .int .i16 0, .int .i16 0, .int .i16 0, .int .i16 0, .int .u8 0, .int .u8 0, .int .i64 0, .int .i64 0, .int .i64 0, .int .i64 (-8777)]
theorem markWc_one : ∀ u ∈ markWc, u.oneCell' = true := List.all_eq_true.1 (rfl : markWc.all (·.oneCell') = true)
set_option maxHeartbeats 4000000 in
theorem markWaiting_any (w : World) : Calls Tryz.prog 81 #[.int .i64 7777] w fun e w' => e = .returned (.agg #[.int .u8 0, .int .u8 0, .int .u8 0, .int .u8 0, .int .u8 0, .int .u8 0, .int .u8 0, .int .u8 0, .int .i16 0, .int .i16 0, .int .i16 0, .int .i16 0, .int .u8 0, .int .u8 0, .int .i64 0, .int .i64 0, .int .i64 0, .int .i64 (-8777)]) ∧ Below w.heap.size w w' := by
  have HB := Lib.hid ((Below.refl w.heap.size w).alloc (Nat.le_refl _) (.cells #[.int .u8 0, .int .u8 0, .int .u8 0, .int .u8 0, .int .u8 0, .int .u8 0, .int .u8 0, .int .u8 0, .int .i16 0, .int .i16 0, .int .i16 0, .int .i16 0, .int .u8 0, .int .u8 0, .int .i64 0, .int .i64 0, .int .i64 0, .int .i64 (-8777)] 79))
  have HH := Lib.hid (heap_alloc_new w (.cells #[.int .u8 0, .int .u8 0, .int .u8 0, .int .u8 0, .int .u8 0, .int .u8 0, .int .u8 0, .int .u8 0, .int .i16 0, .int .i16 0, .int .i16 0, .int .i16 0, .int .u8 0, .int .u8 0, .int .i64 0, .int .i64 0, .int .i64 0, .int .i64 (-8777)] 79))
  go_enter Tryz.func81, Tryz.ntmps81
  go_wp2_with (first | ((with_reducible refine wpList_store_new (o := ⟨none, .store 79 (.tmp 2) (.tmp 5), _, _, _, _⟩) ?_ 79 (.tmp 2) (.tmp 5) ?_ _ #[.int .u8 0, .int .u8 0, .int .u8 0, .int .u8 0, .int .u8 0, .int .u8 0, .int .u8 0, .int .u8 0, .int .i16 0, .int .i16 0, .int .i16 0, .int .i16 0, .int .u8 0, .int .u8 0, .int .i64 0, .int .i64 0, .int .i64 0, .int .i64 (-8777)] ?_ ?_ markWc ?_ ?_ ?_ markWc_one ?_); rfl; rfl; rfl; rfl; rfl; exact sz_wait; rfl))
  generalize w.alloc (.cells #[.int .u8 0, .int .u8 0, .int .u8 0, .int .u8 0, .int .u8 0, .int .u8 0, .int .u8 0, .int .u8 0, .int .i16 0, .int .i16 0, .int .i16 0, .int .i16 0, .int .u8 0, .int .u8 0, .int .i64 0, .int .i64 0, .int .i64 0, .int .i64 (-8777)] 79) = W at *
  exact bodyPost_ret (v := .agg #[.int .u8 0, .int .u8 0, .int .u8 0, .int .u8 0, .int .u8 0, .int .u8 0, .int .u8 0, .int .u8 0, .int .i16 0, .int .i16 0, .int .i16 0, .int .i16 0, .int .u8 0, .int .u8 0, .int .i64 0, .int .i64 0, .int .i64 0, .int .i64 (-8777)]) (results_cell 2 79 Tryz.results81 w.heap.size rfl markWc _ rfl _ (head_cells HH.out 18 rfl) Tryz.underlying79 rfl sz_wait) rfl ⟨rfl, HB.out⟩
theorem markWaiting_op : ∃ MV : Array Value, MV.toList = markWc ∧ ∀ w, Calls Tryz.prog 81 #[.int .i64 7777] w fun e w' => e = .returned (.agg MV) ∧ Below w.heap.size w w' := ⟨_, rfl, markWaiting_any⟩

def markDc : List Value := [.int .u8 0, .int .u8 0, .int .u8 0, .int .u8 0, .int .u8 0, .int .u8 0, .int .u8 0, .int .u8 0, .int .i16 0, .int .i16 0, .int .u8 0, .int .u8 0, .int .i64 0, .int .i64 (-8777)]
theorem markDc_one : ∀ u ∈ markDc, u.oneCell' = true := List.all_eq_true.1 (rfl : markDc.all (·.oneCell') = true)
set_option maxHeartbeats 4000000 in
theorem markIdle_any (w : World) : Calls Tryz.prog 82 #[.int .i64 7777] w fun e w' => e = .returned (.agg #[.int .u8 0, .int .u8 0, .int .u8 0, .int .u8 0, .int .u8 0, .int .u8 0, .int .u8 0, .int .u8 0, .int .i16 0, .int .i16 0, .int .u8 0, .int .u8 0, .int .i64 0, .int .i64 (-8777)]) ∧ Below w.heap.size w w' := by
  have HB := Lib.hid ((Below.refl w.heap.size w).alloc (Nat.le_refl _) (.cells #[.int .u8 0, .int .u8 0, .int .u8 0, .int .u8 0, .int .u8 0, .int .u8 0, .int .u8 0, .int .u8 0, .int .i16 0, .int .i16 0, .int .u8 0, .int .u8 0, .int .i64 0, .int .i64 (-8777)] 83))
  have HH := Lib.hid (heap_alloc_new w (.cells #[.int .u8 0, .int .u8 0, .int .u8 0, .int .u8 0, .int .u8 0, .int .u8 0, .int .u8 0, .int .u8 0, .int .i16 0, .int .i16 0, .int .u8 0, .int .u8 0, .int .i64 0, .int .i64 (-8777)] 83))
  go_enter Tryz.func82, Tryz.ntmps82
  go_wp2_with (first | ((with_reducible refine wpList_store_new (o := ⟨none, .store 83 (.tmp 2) (.tmp 5), _, _, _, _⟩) ?_ 83 (.tmp 2) (.tmp 5) ?_ _ #[.int .u8 0, .int .u8 0, .int .u8 0, .int .u8 0, .int .u8 0, .int .u8 0, .int .u8 0, .int .u8 0, .int .i16 0, .int .i16 0, .int .u8 0, .int .u8 0, .int .i64 0, .int .i64 (-8777)] ?_ ?_ markDc ?_ ?_ ?_ markDc_one ?_); rfl; rfl; rfl; rfl; rfl; exact sz_idle; rfl))
  generalize w.alloc (.cells #[.int .u8 0, .int .u8 0, .int .u8 0, .int .u8 0, .int .u8 0, .int .u8 0, .int .u8 0, .int .u8 0, .int .i16 0, .int .i16 0, .int .u8 0, .int .u8 0, .int .i64 0, .int .i64 (-8777)] 83) = W at *
  exact bodyPost_ret (v := .agg #[.int .u8 0, .int .u8 0, .int .u8 0, .int .u8 0, .int .u8 0, .int .u8 0, .int .u8 0, .int .u8 0, .int .i16 0, .int .i16 0, .int .u8 0, .int .u8 0, .int .i64 0, .int .i64 (-8777)]) (results_cell 2 83 Tryz.results82 w.heap.size rfl markDc _ rfl _ (head_cells HH.out 14 rfl) Tryz.underlying83 rfl sz_idle) rfl ⟨rfl, HB.out⟩
theorem markIdle_op : ∃ MV : Array Value, MV.toList = markDc ∧ ∀ w, Calls Tryz.prog 82 #[.int .i64 7777] w fun e w' => e = .returned (.agg MV) ∧ Below w.heap.size w w' := ⟨_, rfl, markIdle_any⟩

def markEc : List Value := [.int .i64 0, .int .i64 0, .int .i64 (-8777)]
theorem markEc_one : ∀ u ∈ markEc, u.oneCell' = true := List.all_eq_true.1 (rfl : markEc.all (·.oneCell') = true)
set_option maxHeartbeats 4000000 in
theorem markEdge_any (w : World) : Calls Tryz.prog 117 #[.int .i64 7777] w fun e w' => e = .returned (.agg #[.int .i64 0, .int .i64 0, .int .i64 (-8777)]) ∧ Below w.heap.size w w' := by
  have HB := Lib.hid ((Below.refl w.heap.size w).alloc (Nat.le_refl _) (.cells #[.int .i64 0, .int .i64 0, .int .i64 (-8777)] 114))
  have HH := Lib.hid (heap_alloc_new w (.cells #[.int .i64 0, .int .i64 0, .int .i64 (-8777)] 114))
  go_enter Tryz.func117, Tryz.ntmps117
  go_wp2_with (first | ((with_reducible refine wpList_store_new (o := ⟨none, .store 114 (.tmp 2) (.tmp 5), _, _, _, _⟩) ?_ 114 (.tmp 2) (.tmp 5) ?_ _ #[.int .i64 0, .int .i64 0, .int .i64 (-8777)] ?_ ?_ markEc ?_ ?_ ?_ markEc_one ?_); rfl; rfl; rfl; rfl; rfl; exact sz_edge; rfl))
  generalize w.alloc (.cells #[.int .i64 0, .int .i64 0, .int .i64 (-8777)] 114) = W at *
  exact bodyPost_ret (v := .agg #[.int .i64 0, .int .i64 0, .int .i64 (-8777)]) (results_cell 2 114 Tryz.results117 w.heap.size rfl markEc _ rfl _ (head_cells HH.out 3 rfl) Tryz.underlying114 rfl sz_edge) rfl ⟨rfl, HB.out⟩
theorem markEdge_op : ∃ MV : Array Value, MV.toList = markEc ∧ ∀ w, Calls Tryz.prog 117 #[.int .i64 7777] w fun e w' => e = .returned (.agg MV) ∧ Below w.heap.size w w' := ⟨_, rfl, markEdge_any⟩

def markPc : List Value := [.int .i64 (-8777), .int .i64 0]
theorem markPc_one : ∀ u ∈ markPc, u.oneCell' = true := List.all_eq_true.1 (rfl : markPc.all (·.oneCell') = true)
set_option maxHeartbeats 4000000 in
theorem markPair_any (w : World) : Calls Tryz.prog 74 #[.int .i64 7777] w fun e w' => e = .returned (.agg #[.int .i64 (-8777), .int .i64 0]) ∧ Below w.heap.size w w' := by
  have HB := Lib.hid ((Below.refl w.heap.size w).alloc (Nat.le_refl _) (.cells #[.int .i64 (-8777), .int .i64 0] 69))
  have HH := Lib.hid (heap_alloc_new w (.cells #[.int .i64 (-8777), .int .i64 0] 69))
  go_enter Tryz.func74, Tryz.ntmps74
  go_wp2_with (first | ((with_reducible refine wpList_store_new (o := ⟨none, .store 69 (.tmp 2) (.tmp 5), _, _, _, _⟩) ?_ 69 (.tmp 2) (.tmp 5) ?_ _ #[.int .i64 (-8777), .int .i64 0] ?_ ?_ markPc ?_ ?_ ?_ markPc_one ?_); rfl; rfl; rfl; rfl; rfl; exact sz_pair; rfl))
  generalize w.alloc (.cells #[.int .i64 (-8777), .int .i64 0] 69) = W at *
  exact bodyPost_ret (v := .agg #[.int .i64 (-8777), .int .i64 0]) (results_cell 2 69 Tryz.results74 w.heap.size rfl markPc _ rfl _ (head_cells HH.out 2 rfl) Tryz.underlying69 rfl sz_pair) rfl ⟨rfl, HB.out⟩
theorem markPair_op : ∃ MV : Array Value, MV.toList = markPc ∧ ∀ w, Calls Tryz.prog 74 #[.int .i64 7777] w fun e w' => e = .returned (.agg MV) ∧ Below w.heap.size w w' := ⟨_, rfl, markPair_any⟩

theorem markInt_any (w : World) : Calls Tryz.prog 127 #[.int .i64 7777] w fun e w' => e = .returned (.int .i64 (-8777)) ∧ w' = w := by
  go_enter Tryz.func127, Tryz.ntmps127
  go_wp2_with fail
  go_ret
  exact ⟨rfl, rfl⟩
end Go.Proofs.YtcaicgipibcicaaGreat

/- A twin of a list of structs in memory: how it grows. -/
namespace Go.Proofs.YtcaicgipibcicaaGreat
set_option maxRecDepth 100000
set_option linter.unusedVariables false
set_option linter.unusedSimpArgs false
open Go.RowKit Go.Sort

theorem range_append {w : World} {b o : Nat} {A B : List Value} (h1 : w.rangeAt b o A) (h2 : w.rangeAt b (o + A.length) B) : w.rangeAt b o (A ++ B) := by
  intro j v hv
  rw [List.getElem?_append] at hv
  split at hv
  · exact h1 j v hv
  · rename_i hj
    have := h2 (j - A.length) v hv
    rw [show o + A.length + (j - A.length) = o + j by omega] at this
    exact this
theorem there_sub {w : World} {b n : Nat} (h : w.there b 0 n) {o m : Nat} (hm : o + m ≤ n) : w.there b o m := fun j hj => by
  have := h (o + j) (by omega)
  rw [Nat.zero_add] at this
  exact this
/-- So many elements were copied. -/
structure Tw {α : Type} (w : World) (G : Nat) (f : α → List Value) (sz k : Nat) (xs : List α) (j : Nat) (wr : World) : Prop where
  rng : wr.rangeAt G 0 (cellsOf f (xs.take j))
  room : wr.there G 0 ((k + 1) * sz)
  below : Below w.heap.size w wr
  ge : w.heap.size ≤ G
theorem Tw.next {α : Type} {w : World} {G : Nat} {f : α → List Value} {sz k : Nat} {xs : List α} {j : Nat} {wr : World} (h : Tw w G f sz k xs j wr) (hf : ∀ a, (f a).length = sz) (hj : j < k) {x : α} (hx : xs[j]? = some x) :
    Tw w G f sz k xs (j + 1) (wr.setCells G (j * sz) (f x)) := by
  have hlen : (cellsOf f (xs.take j)).length = j * sz := by
    rw [cellsOf_length _ sz hf, List.length_take]
    have := (List.getElem?_eq_some_iff.1 hx).1
    rw [Nat.min_eq_left (by omega)]
  have hroom : j * sz + sz ≤ (k + 1) * sz := by
    have : (j + 1) * sz ≤ (k + 1) * sz := Nat.mul_le_mul_right _ (by omega)
    rw [Nat.add_mul] at this
    omega
  refine ⟨?_, World.there_setCells h.room _ _ _, h.below.trans ((Keep.setCells wr G (j * sz) (f x)).below h.below.size (fun i hi he => by have := h.ge; omega)), h.ge⟩
  have he : xs.take (j + 1) = xs.take j ++ [x] := by
    rw [List.take_succ_eq_append_getElem (List.getElem?_eq_some_iff.1 hx).1, (List.getElem?_eq_some_iff.1 hx).2]
  rw [he, cellsOf_snoc]
  refine range_append (World.rangeAt_setCells_apart h.rng _ _ _ (.inr (.inl (by rw [hlen]; omega)))) ?_
  rw [hlen, Nat.zero_add]
  exact World.rangeAt_setCells_same wr G (j * sz) (f x) (there_sub h.room (by rw [hf]; exact hroom))
theorem Tw.begin {α : Type} (w : World) (f : α → List Value) (sz k : Nat) (xs : List α) (M : Array Value) (t : TypeId) (hM : M.size = (k + 1) * sz) : Tw w w.heap.size f sz k xs 0 (w.alloc (.cells M t)) := by
  refine ⟨fun j v hv => by simp [cellsOf] at hv, fun j hj => ⟨?_, ?_⟩, (Below.refl w.heap.size w).alloc (Nat.le_refl _) _, Nat.le_refl _⟩
  · rw [Nat.zero_add, cell_of_row _ _ j M t (0, 0) (heap_alloc_new w _), Array.getElem?_eq_getElem (by omega)]
    rfl
  · rw [Nat.zero_add]
    exact frozen_of_row _ _ j _ t (heap_alloc_new w _)
theorem Tw.keep {α : Type} {w : World} {G : Nat} {f : α → List Value} {sz k : Nat} {xs : List α} {j : Nat} {wr w' : World} (h : Tw w G f sz k xs j wr) (hb : Below wr.heap.size wr w') (hlt : G < wr.heap.size) : Tw w G f sz k xs j w' := by
  have hbl := hb.block G hlt
  refine ⟨fun i v hv => ?_, fun i hi => ?_, Below.next h.below hb, h.ge⟩
  · exact (Keep.of_below hb (Nat.le_refl _) (fun _ => False)).cell (h.rng i v hv) id
  · obtain ⟨h1, h2⟩ := h.room i hi
    obtain ⟨u, hu⟩ := Option.isSome_iff_exists.1 h1
    refine ⟨by rw [(Keep.of_below hb (Nat.le_refl _) (fun _ => False)).cell hu id]; rfl, ?_⟩
    unfold World.frozen? at h2 ⊢
    simp only at h2 ⊢
    rw [hbl]
    exact h2
theorem there_keep {X : Nat → Prop} {w w' : World} {b o n : Nat} (h : w.there b o n) (hk : Keep X w w') (hx : ¬ X b) : w'.there b o n := fun j hj => by
  obtain ⟨h1, h2⟩ := h j hj
  obtain ⟨u, hu⟩ := Option.isSome_iff_exists.1 h1
  refine ⟨by rw [hk.cell hu hx]; rfl, ?_⟩
  have hob : ∃ ob, w.heap[b]? = some ob := by
    cases hq : w.heap[b]? with
    | none => simp [World.cell?, hq] at hu
    | some ob => exact ⟨ob, rfl⟩
  obtain ⟨ob, hob⟩ := hob
  have hob' := hk.old hob hx
  unfold World.frozen? at h2 ⊢
  simp only [hob, hob'] at h2 ⊢
  exact h2
theorem there_below {w w' : World} {b o n : Nat} (h : w.there b o n) (hb : Below w.heap.size w w') : w'.there b o n := there_keep h (Keep.of_below hb (Nat.le_refl _) (fun _ => False)) id
/-- A twin: the elements, and the mark behind them. -/
structure Twin {α : Type} (w : World) (G : Nat) (f : α → List Value) (xs : List α) (mark : List Value) (w' : World) : Prop where
  rng : w'.rangeAt G 0 (cellsOf f xs ++ mark)
  below : Below w.heap.size w w'
  ge : w.heap.size ≤ G
  room : w'.there G 0 ((cellsOf f xs).length + mark.length)
theorem Tw.end {α : Type} {w : World} {G : Nat} {f : α → List Value} {sz k : Nat} {xs : List α} {wr : World} (h : Tw w G f sz k xs k wr) (hf : ∀ a, (f a).length = sz) (hk : xs.length = k) {mark : List Value} (hm : mark.length = sz) :
    Twin w G f xs mark (wr.setCells G (k * sz) mark) := by
  have hr := h.rng
  rw [List.take_of_length_le (by rw [hk]; exact Nat.le_refl _)] at hr
  have hlen : (cellsOf f xs).length = k * sz := by rw [cellsOf_length _ sz hf, hk]
  refine ⟨range_append (World.rangeAt_setCells_apart hr _ _ _ (.inr (.inl (by rw [hlen]; omega)))) ?_, h.below.trans ((Keep.setCells wr G (k * sz) mark).below h.below.size (fun i hi he => by have := h.ge; omega)), h.ge, by rw [hlen, hm, show k * sz + sz = (k + 1) * sz by rw [Nat.add_mul, Nat.one_mul]]; exact World.there_setCells h.room _ _ _⟩
  rw [hlen, Nat.zero_add]
  exact World.rangeAt_setCells_same wr G (k * sz) mark (there_sub h.room (by rw [hm, Nat.add_mul]; omega))
theorem Twin.rdc {α : Type} {w : World} {G : Nat} {f : α → List Value} {xs : List α} {mark : List Value} {w' : World} (h : Twin w G f xs mark w') : RdC w' (some ⟨G, 0, none⟩) (cellsOf f xs) :=
  .inr ⟨G, 0, rfl, fun j u hu => h.rng j u (by rw [List.getElem?_append_left (List.getElem?_eq_some_iff.1 hu).1]; exact hu)⟩
end Go.Proofs.YtcaicgipibcicaaGreat
