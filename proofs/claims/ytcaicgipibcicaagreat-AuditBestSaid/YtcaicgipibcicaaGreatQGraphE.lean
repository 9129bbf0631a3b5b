/- What a graph of requests and drivers is: plain facts; its boxes. -/
import Derived.Test.YtcaicgipibcicaaGreatQWr
import Derived.Test.YtcaicgipibcicaaGreatQWeigh2
import Derived.Test.YtcaicgipibcicaaGreatQRFit3
namespace Go.Proofs.YtcaicgipibcicaaGreat
set_option maxRecDepth 100000
set_option linter.unusedVariables false
open Go.RowKit Go.Sort

theorem weighE_cons (c : PConf) (now : Int) (x : PWait) (l : List PWait) : weighE c now (x :: l) = if (wtP c now x).2 ≠ 0 then (wtP c now x).2 else weighE c now l := rfl
theorem weighE_zero {c : PConf} {now : Int} {l : List PWait} (h : ∀ (j : Nat) (x : PWait), l[j]? = some x → (wtP c now x).2 = 0) : weighE c now l = 0 := by
  induction l with
  | nil => rfl
  | cons a l ih => rw [weighE_cons, h 0 a (by simp), if_neg (by simp)]; exact ih (fun j x hx => h (j + 1) x (by simpa using hx))
theorem weighE_at {c : PConf} {now : Int} : ∀ {l : List PWait} {k : Nat} {x : PWait}, l[k]? = some x → (wtP c now x).2 ≠ 0 → (∀ (j : Nat) (y : PWait), j < k → l[j]? = some y → (wtP c now y).2 = 0) → weighE c now l = (wtP c now x).2
  | [], k, x, h, _, _ => by simp at h
  | a :: l, 0, x, h, hne, _ => by
    simp only [List.getElem?_cons_zero, Option.some.injEq] at h
    subst h
    rw [weighE_cons, if_pos hne]
  | a :: l, k + 1, x, h, hne, hz => by
    simp only [List.getElem?_cons_succ] at h
    rw [weighE_cons, hz 0 a (by omega) (by simp), if_neg (by simp)]
    exact weighE_at h hne (fun j y hj hy => hz (j + 1) y (by omega) (by simpa using hy))
theorem driversE_zero {l : List PIdle} (h : ∀ (j : Nat) (x : PIdle), l[j]? = some x → driverE x.d = 0) : driversE l = 0 := by
  induction l with
  | nil => rfl
  | cons a l ih => rw [driversE, h 0 a (by simp), if_neg (by simp)]; exact ih (fun j x hx => h (j + 1) x (by simpa using hx))
theorem driversE_at : ∀ {l : List PIdle} {k : Nat} {x : PIdle}, l[k]? = some x → driverE x.d ≠ 0 → (∀ (j : Nat) (y : PIdle), j < k → l[j]? = some y → driverE y.d = 0) → driversE l = driverE x.d
  | [], k, x, h, _, _ => by simp at h
  | a :: l, 0, x, h, hne, _ => by
    simp only [List.getElem?_cons_zero, Option.some.injEq] at h
    subst h
    rw [driversE, if_pos hne]
  | a :: l, k + 1, x, h, hne, hz => by
    simp only [List.getElem?_cons_succ] at h
    rw [driversE, hz 0 a (by omega) (by simp), if_neg (by simp)]
    exact driversE_at h hne (fun j y hj hy => hz (j + 1) y (by omega) (by simpa using hy))
theorem buildE_1 {c : PConf} {now : Int} {ws : List PWait} {ds : List PIdle} (h : configF c = false) : buildE c now ws ds = 160 := by simp [buildE, configE, h]
theorem buildE_2 {c : PConf} {now : Int} {ws : List PWait} {ds : List PIdle} (h1 : configF c = true) (h : tickF now = false) : buildE c now ws ds = 1 := by simp [buildE, configE, h1, h]
theorem buildE_3 {c : PConf} {now : Int} {ws : List PWait} {ds : List PIdle} (h1 : configF c = true) (h2 : tickF now = true) (h : 64 < ws.length ∨ 64 < ds.length) : buildE c now ws ds = 3 := by simp only [buildE, configE, h1, h2, if_true, ne_eq, not_true_eq_false, if_false, Bool.not_true, Bool.false_eq_true, if_pos h]
theorem buildE_4 {c : PConf} {now : Int} {ws : List PWait} {ds : List PIdle} (h1 : configF c = true) (h2 : tickF now = true) (h3 : ¬ (64 < ws.length ∨ 64 < ds.length)) (h : weighE c now ws ≠ 0) : buildE c now ws ds = weighE c now ws := by simp only [buildE, configE, h1, h2, if_true, ne_eq, not_true_eq_false, if_false, Bool.not_true, Bool.false_eq_true, if_neg h3, if_pos h]
theorem buildE_5 {c : PConf} {now : Int} {ws : List PWait} {ds : List PIdle} (h1 : configF c = true) (h2 : tickF now = true) (h3 : ¬ (64 < ws.length ∨ 64 < ds.length)) (h : weighE c now ws = 0) : buildE c now ws ds = driversE ds := by simp only [buildE, configE, h1, h2, if_true, ne_eq, not_true_eq_false, if_false, Bool.not_true, Bool.false_eq_true, if_neg h3, h]

def edgeOf (c : PConf) (now : Int) (ws : List PWait) (p : PPair) : PEdge := ⟨p.r, p.c, match ws[p.r.toNat]? with | none => 0 | some w => (wtP c now w).1⟩
theorem edgesF_eq (c : PConf) (now : Int) (ws : List PWait) (ds : List PIdle) : edgesF c now ws ds = (pairsF ws ds).map (edgeOf c now ws) := rfl
theorem edgeOf_at {c : PConf} {now : Int} {ws : List PWait} {p : PPair} {x : PWait} (h : ws[p.r.toNat]? = some x) : edgeOf c now ws p = ⟨p.r, p.c, (wtP c now x).1⟩ := by simp only [edgeOf, h]
theorem pairsF_in {ws : List PWait} {ds : List PIdle} {p : PPair} (h : p ∈ pairsF ws ds) : 0 ≤ p.r ∧ p.r < ws.length ∧ 0 ≤ p.c ∧ p.c < ds.length := by
  unfold pairsF pairsRow at h
  rw [List.mem_flatMap] at h
  obtain ⟨i, hi, h⟩ := h
  unfold pairsCol at h
  rw [List.mem_map] at h
  obtain ⟨k, hk, rfl⟩ := h
  rw [List.mem_filter] at hk
  have h1 := List.mem_range.1 hi
  have h2 := List.mem_range.1 hk.1
  exact ⟨by simp, by simpa using h1, by simp, by simpa using h2⟩
theorem pairsF_len (ws : List PWait) (ds : List PIdle) : (pairsF ws ds).length ≤ ws.length * ds.length := pairsRow_len ws ds ws.length
theorem take_map_next {α β : Type} {l : List α} {f : α → β} {j : Nat} {x : α} (hx : l[j]? = some x) : (l.take (j + 1)).map f = (l.take j).map f ++ [f x] := by
  rw [List.take_succ_eq_append_getElem (List.getElem?_eq_some_iff.1 hx).1, (List.getElem?_eq_some_iff.1 hx).2]
  simp

def zeroG : Value := .agg #[.int .i64 0, .int .i64 0, .slice none 0 0]
/-- What a call of Graph answers. -/
def GraphPost (w : World) (c : PConf) (now : Int) (ws : List PWait) (ds : List PIdle) (e : Ending) (w' : World) : Prop :=
  (buildE c now ws ds ≠ 0 ∧ e = .returned (.tuple #[.agg #[.int .i64 0, .int .i64 0, .slice none 0 0], .int .i64 (buildE c now ws ds)]) ∧ Below w.heap.size w w') ∨
  (buildE c now ws ds = 0 ∧ ∃ ev, e = .returned (.tuple #[.agg #[.int .i64 ws.length, .int .i64 ds.length, ev], .int .i64 0]) ∧ Grown w PEdge.cells 3 (edgesF c now ws ds) ev w')
theorem GraphPost.no {w : World} {c : PConf} {now : Int} {ws : List PWait} {ds : List PIdle} {w' : World} {E : Int} (h : buildE c now ws ds = E) (hE : E ≠ 0) (hb : Below w.heap.size w w') : GraphPost w c now ws ds (.returned (.tuple #[.agg #[.int .i64 0, .int .i64 0, .slice none 0 0], .int .i64 E])) w' := by
  subst h
  exact .inl ⟨hE, rfl, hb⟩
theorem GraphPost.yes {w : World} {c : PConf} {now : Int} {ws : List PWait} {ds : List PIdle} {w' : World} {n m : Nat} {ev : Value} (hE : buildE c now ws ds = 0) (hn : ws.length = n) (hm : ds.length = m) (hg : Grown w PEdge.cells 3 (edgesF c now ws ds) ev w') :
    GraphPost w c now ws ds (.returned (.tuple #[.agg #[.int .i64 n, .int .i64 m, ev], .int .i64 0])) w' := by
  subst hn
  subst hm
  exact .inr ⟨hE, ev, rfl, hg⟩
/-- The configuration's box and the answer's. -/
structure GhRel (w : World) (c : PConf) (H0 H8 : Nat) (wr : World) : Prop where
  g : wr.heap[H0]? = some (.cells #[.int .i64 c.q, .int .i64 c.d, .int .i64 c.w, .int .i64 c.ttl, .int .i64 c.b] 23 (0, 0))
  r : wr.heap[H8]? = some (.cells #[.int .i64 0, .int .i64 0, .slice none 0 0] 28 (0, 0))
  below : Below w.heap.size w wr
theorem GhRel.keep {w : World} {c : PConf} {H0 H8 : Nat} {wr w' : World} (h : GhRel w c H0 H8 wr) (hb : Below wr.heap.size wr w') : GhRel w c H0 H8 w' :=
  ⟨(Keep.of_below hb (Nat.le_refl _) (fun _ => False)).old h.g id, (Keep.of_below hb (Nat.le_refl _) (fun _ => False)).old h.r id, Below.next h.below hb⟩
theorem GhRel.one {w : World} {c : PConf} {H0 H8 : Nat} {wr : World} (h : GhRel w c H0 H8 wr) (o : Obj) : GhRel w c H0 H8 (wr.alloc o) := h.keep ((Below.refl _ _).alloc (Nat.le_refl _) _)
theorem GhRel.begin (w : World) (c : PConf) : GhRel w c w.heap.size (w.heap.size + 1) ((w.alloc (.cells #[.int .i64 c.q, .int .i64 c.d, .int .i64 c.w, .int .i64 c.ttl, .int .i64 c.b] 23)).alloc (.cells #[.int .i64 0, .int .i64 0, .slice none 0 0] 28)) := by
  refine ⟨(Keep.alloc (fun _ => False) _ _).old (heap_alloc_new w _) id, ?_, ((Below.refl w.heap.size w).alloc (Nat.le_refl _) _).alloc (by simp) _⟩
  have := heap_alloc_new (w.alloc (.cells #[.int .i64 c.q, .int .i64 c.d, .int .i64 c.w, .int .i64 c.ttl, .int .i64 c.b] 23)) (.cells #[.int .i64 0, .int .i64 0, .slice none 0 0] 28)
  rw [show (w.alloc (.cells #[.int .i64 c.q, .int .i64 c.d, .int .i64 c.w, .int .i64 c.ttl, .int .i64 c.b] 23)).heap.size = w.heap.size + 1 by simp] at this
  exact this
/-- Writes into the answer's box leave what was there before. -/
theorem GhRel.write {w : World} {c : PConf} {H0 H8 : Nat} {wr : World} (h : GhRel w c H0 H8 wr) (hH : w.heap.size ≤ H8) (a b d : Value) : Below w.heap.size w (((wr.setCell ⟨H8, 0, none⟩ a).setCell ⟨H8, 1, none⟩ b).setCell ⟨H8, 2, none⟩ d) :=
  ((h.below.setCell (p := ⟨H8, 0, none⟩) hH a).setCell (p := ⟨H8, 1, none⟩) hH b).setCell (p := ⟨H8, 2, none⟩) hH d
theorem Own.sl {w : World} {size : Nat} {v : Value} {n : Nat} {xs : List Value} (h : Own w size v n xs) : ∃ ao cap, v = .slice ao n cap := by
  rcases h.2 with ⟨h, h0⟩ | ⟨g, cap, h, _⟩
  · exact ⟨none, 0, by rw [h, h0]⟩
  · exact ⟨_, cap, h⟩
theorem GhRel.keepX {w : World} {c : PConf} {H0 H8 : Nat} {wr w' : World} {X : Nat → Prop} (h : GhRel w c H0 H8 wr) (hk : Keep X wr w') (h0 : ¬ X H0) (h8 : ¬ X H8) (hb : ∀ i, i < w.heap.size → ¬ X i) : GhRel w c H0 H8 w' :=
  ⟨hk.old h.g h0, hk.old h.r h8, h.below.trans (hk.below h.below.size hb)⟩
theorem GhRel.set {w : World} {c : PConf} {H0 H8 G : Nat} {wr : World} (h : GhRel w c H0 H8 wr) (h0 : H0 < H8) (h8 : H8 < G) (hw : w.heap.size ≤ H8) (k : Nat) (v : Value) : GhRel w c H0 H8 (wr.setCell ⟨G, k, none⟩ v) :=
  ⟨(Keep.setCell wr G k v).old h.g (by omega), (Keep.setCell wr G k v).old h.r (by omega), h.below.setCell (p := ⟨G, k, none⟩) (by simp; omega) v⟩
theorem Grown.write {α : Type} {w : World} {f : α → List Value} {k : Nat} {l : List α} {v : Value} {wr : World} (h : Grown w f k l v wr) {H : Nat} (hH : w.heap.size ≤ H) (hne : ∀ g, v.ownBlock = some g → g ≠ H) (a b d : Value) : Grown w f k l v (((wr.setCell ⟨H, 0, none⟩ a).setCell ⟨H, 1, none⟩ b).setCell ⟨H, 2, none⟩ d) := by
  have hk : Keep (fun k => k = H) wr (((wr.setCell ⟨H, 0, none⟩ a).setCell ⟨H, 1, none⟩ b).setCell ⟨H, 2, none⟩ d) :=
    ((Keep.setCell wr H 0 a).trans (Keep.setCell _ H 1 b) (fun _ _ h => h) (fun _ _ h => h)).trans (Keep.setCell _ H 2 d) (fun _ _ h => h) (fun _ _ h => h)
  exact ⟨h.own.keep hk hne, h.below.trans (hk.below h.below.size (fun i hi he => by omega)), h.new⟩
/-- The weights so far, and room for the others. -/
def wtsF (c : PConf) (now : Int) (ws : List PWait) (n k : Nat) : List Value := (ws.take k).map (fun x => Value.int .i64 (wtP c now x).1) ++ List.replicate (n - k) (.int .i64 0)
theorem wtsF_zero (c : PConf) (now : Int) (ws : List PWait) (n : Nat) : wtsF c now ws n 0 = List.replicate n (.int .i64 0) := by simp [wtsF]
theorem wtsF_next {c : PConf} {now : Int} {ws : List PWait} {n k : Nat} {x : PWait} (hn : ws.length = n) (hx : ws[k]? = some x) : wtsF c now ws n (k + 1) = (wtsF c now ws n k).set k (.int .i64 (wtP c now x).1) := by
  have hk := (List.getElem?_eq_some_iff.1 hx).1
  unfold wtsF
  rw [take_map_next hx, List.set_append_right _ _ (by rw [List.length_map, List.length_take]; omega), List.length_map, List.length_take, show k - min k ws.length = 0 by omega, show n - k = (n - (k + 1)) + 1 by omega, List.replicate_succ, List.append_assoc]
  rfl
theorem wtsF_room {c : PConf} {now : Int} {ws : List PWait} {n k : Nat} (hn : ws.length = n) (hk : k < n) : (wtsF c now ws n k)[k]? = some (.int .i64 0) := by
  unfold wtsF
  rw [List.getElem?_append_right (by rw [List.length_map, List.length_take]; omega), List.length_map, List.length_take, List.getElem?_replicate, if_pos (by omega)]
theorem wtsF_at {c : PConf} {now : Int} {ws : List PWait} {n i : Nat} {x : PWait} (hn : ws.length = n) (hx : ws[i]? = some x) : (wtsF c now ws n n)[i]? = some (.int .i64 (wtP c now x).1) := by
  have hi := (List.getElem?_eq_some_iff.1 hx).1
  unfold wtsF
  rw [List.take_of_length_le (by omega), List.getElem?_append_left (by rw [List.length_map]; exact hi)]
  simp [hx]
/-- What stands in the third cell of a block. -/
def pickC (w : World) (H : Nat) : Value := (w.cell? ⟨H, 2, none⟩).getD undef
theorem pick_of {w : World} {H : Nat} {v : Value} (h : w.cell? ⟨H, 2, none⟩ = some v) : w.cell? ⟨H, 2, none⟩ = some (pickC w H) := by simp [pickC, h]
theorem pick_eq {w : World} {H : Nat} {v : Value} (h : w.cell? ⟨H, 2, none⟩ = some v) : pickC w H = v := by simp [pickC, h]
theorem cell_heap {w w' : World} (h : w'.heap = w.heap) (a : Addr) : w'.cell? a = w.cell? a := by unfold World.cell?; rw [h]
theorem pick_keep {w w' : World} {H P G k : Nat} {a b c : Value} {X : Nat → Prop} (h : w.cell? ⟨H, 2, none⟩ = some (pickC w H) ∧ w.cell? ⟨P, 0, none⟩ = some a ∧ w.cell? ⟨P, 1, none⟩ = some b ∧ w.cell? ⟨G, k, none⟩ = some c) (hk : Keep X w w') (h1 : ¬ X H) (h2 : ¬ X P) (h3 : ¬ X G) :
    w'.cell? ⟨H, 2, none⟩ = some (pickC w' H) ∧ w'.cell? ⟨P, 0, none⟩ = some a ∧ w'.cell? ⟨P, 1, none⟩ = some b ∧ w'.cell? ⟨G, k, none⟩ = some c :=
  ⟨pick_of (hk.cell h.1 h1), hk.cell h.2.1 h2, hk.cell h.2.2.1 h2, hk.cell h.2.2.2 h3⟩
theorem pick_set {w : World} {H P G k : Nat} {a b c : Value} (h : w.cell? ⟨H, 2, none⟩ = some (pickC w H) ∧ w.cell? ⟨P, 0, none⟩ = some a ∧ w.cell? ⟨P, 1, none⟩ = some b ∧ w.cell? ⟨G, k, none⟩ = some c) (v : Value) (h2 : P ≠ H) (h3 : G ≠ H) :
    (w.setCell ⟨H, 2, none⟩ v).cell? ⟨H, 2, none⟩ = some (pickC (w.setCell ⟨H, 2, none⟩ v) H) ∧ (w.setCell ⟨H, 2, none⟩ v).cell? ⟨P, 0, none⟩ = some a ∧ (w.setCell ⟨H, 2, none⟩ v).cell? ⟨P, 1, none⟩ = some b ∧ (w.setCell ⟨H, 2, none⟩ v).cell? ⟨G, k, none⟩ = some c := by
  have hk := Keep.setCell w H 2 v
  refine ⟨?_, hk.cell h.2.1 h2, hk.cell h.2.2.1 h2, hk.cell h.2.2.2 h3⟩
  obtain ⟨v', hv⟩ := cell?_setCell_some (w := w) (p := ⟨H, 2, none⟩) (x := v) (q := ⟨H, 2, none⟩) h.1
  exact pick_of hv
theorem graph_wrote {wr : World} {H8 : Nat} {x y z : Value} (h : wr.heap[H8]? = some (.cells #[x, y, z] 28 (0, 0))) (a b d : Value) :
    ((((wr.setCell ⟨H8, 0, none⟩ a).setCell ⟨H8, 1, none⟩ b).setCell ⟨H8, 2, none⟩ d).cell? ⟨H8, 0, none⟩ = some a) ∧ ((((wr.setCell ⟨H8, 0, none⟩ a).setCell ⟨H8, 1, none⟩ b).setCell ⟨H8, 2, none⟩ d).cell? ⟨H8, 1, none⟩ = some b) ∧ ((((wr.setCell ⟨H8, 0, none⟩ a).setCell ⟨H8, 1, none⟩ b).setCell ⟨H8, 2, none⟩ d).cell? ⟨H8, 2, none⟩ = some d) := by
  have hq : (((wr.setCell ⟨H8, 0, none⟩ a).setCell ⟨H8, 1, none⟩ b).setCell ⟨H8, 2, none⟩ d).heap[H8]? = some (.cells #[a, b, d] 28 (0, 0)) := row_set (row_set (row_set h 0 a) 1 b) 2 d
  obtain ⟨q0, q1, q2, _⟩ := cells3 hq
  exact ⟨q0, q1, q2⟩
end Go.Proofs.YtcaicgipibcicaaGreat
