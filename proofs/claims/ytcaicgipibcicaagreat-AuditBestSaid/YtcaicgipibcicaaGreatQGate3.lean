/- The journal's gate: elements and lists are written. Printed by wip/gengate3.py. -/
import Derived.Test.YtcaicgipibcicaaGreatQGate2
namespace Go.Proofs.YtcaicgipibcicaaGreat
set_option maxRecDepth 100000
set_option linter.unusedVariables false
set_option linter.unusedSimpArgs false
open Go.RowKit Go.Sort

def reqP (x : PReq) : List (List Int) := [[x.i0, x.i1, x.i2, x.i3, x.i4, x.i5, x.i6, x.i7], pointB x.fx x.fy, pointB x.tx x.ty, [x.seats], [x.classes], intB x.base, intB x.ttl]
def waitB (x : PWait) : List Int := (reqP x.r).flatten ++ varB x.since.toNat ++ varB x.number.toNat
def idleB (x : PIdle) : List Int := [x.d.i0, x.d.i1, x.d.i2, x.d.i3, x.d.i4, x.d.i5, x.d.i6, x.d.i7] ++ pointB x.d.ax x.d.ay ++ [x.d.seats] ++ [x.d.cls] ++ intB x.d.radius ++ varB x.number.toNat
def edgeB (x : PEdge) : List Int := varB x.r.toNat ++ varB x.c.toNat ++ varB x.w.toNat
def pairB (x : PPair) : List Int := varB x.r.toNat ++ varB x.c.toNat
theorem natB_len {n : Int} (h : i64ok n) : (varB n.toNat).length ≤ 10 := varB_ten (by have := h.2; omega)
theorem reqP_len (x : PReq) : ∀ k, ((reqP x).take k).flatten.length ≤ 70 := by
  intro k
  have h1 := intB_len x.base
  have h2 := intB_len x.ttl
  match k with
  | 0 => simp [reqP]
  | 1 => simp [reqP]
  | 2 => simp [reqP, pointB]
  | 3 => simp [reqP, pointB]
  | 4 => simp [reqP, pointB]
  | 5 => simp [reqP, pointB]
  | 6 => simp [reqP, pointB]; omega
  | k + 7 => simp [reqP, pointB]; omega
theorem reqP_all (x : PReq) : (reqP x).flatten.length ≤ 70 := reqP_len x 7
theorem waitB_len {x : PWait} (h : x.Ok) : (waitB x).length ≤ 100 := by
  have h1 := reqP_all x.r
  have h2 := natB_len h.since
  have h3 := natB_len h.number
  simp only [waitB, List.length_append]
  omega
theorem idleB_len {x : PIdle} (h : x.Ok) : (idleB x).length ≤ 100 := by
  have h1 := intB_len x.d.radius
  have h2 := natB_len h.number
  simp only [idleB, pointB, List.length_append, List.length_cons, List.length_nil]
  omega
theorem edgeB_len {x : PEdge} (h : x.Ok) : (edgeB x).length ≤ 100 := by
  have h1 := natB_len h.r
  have h2 := natB_len h.c
  have h3 := natB_len h.w
  simp only [edgeB, List.length_append]
  omega
theorem pairB_len {x : PPair} (h : x.Ok) : (pairB x).length ≤ 100 := by
  have h1 := natB_len h.r
  have h2 := natB_len h.c
  simp only [pairB, List.length_append]
  omega
theorem take_flat {L : List (List Int)} {k : Nat} {p : List Int} (h : L[k]? = some p) : (L.take (k + 1)).flatten = (L.take k).flatten ++ p := by
  rw [List.take_succ_eq_append_getElem (List.getElem?_eq_some_iff.1 h).1, (List.getElem?_eq_some_iff.1 h).2]
  simp
theorem take_enc {α : Type} {L : List α} {k : Nat} {x : α} (f : α → List Int) (h : L[k]? = some x) : (L.take (k + 1)).flatMap f = (L.take k).flatMap f ++ f x := by
  rw [List.take_succ_eq_append_getElem (List.getElem?_eq_some_iff.1 h).1, (List.getElem?_eq_some_iff.1 h).2]
  simp
theorem enc_len {α : Type} {f : α → List Int} {m : Nat} : ∀ {L : List α}, (∀ x ∈ L, (f x).length ≤ m) → (L.flatMap f).length ≤ L.length * m
  | [], _ => by simp
  | a :: L, h => by
    have h1 := h a (by simp)
    have h2 := enc_len (fun x hx => h x (by simp [hx])) (L := L)
    simp only [List.flatMap_cons, List.length_append, List.length_cons, Nat.add_mul]
    omega

theorem fields_boxes (w : World) (p q : Value) : (((w.alloc (.cells #[p] 142)).alloc (.cells #[q] 261)).alloc (.cells #[.func (.func 202) #[] #[.pointer (some ⟨w.heap.size, 0, none⟩), .pointer (some ⟨w.heap.size + 1, 0, none⟩)], .func (.func 203) #[] #[.pointer (some ⟨w.heap.size, 0, none⟩), .pointer (some ⟨w.heap.size + 1, 0, none⟩)], .func (.func 204) #[] #[.pointer (some ⟨w.heap.size, 0, none⟩), .pointer (some ⟨w.heap.size + 1, 0, none⟩)], .func (.func 205) #[] #[.pointer (some ⟨w.heap.size, 0, none⟩), .pointer (some ⟨w.heap.size + 1, 0, none⟩)], .func (.func 206) #[] #[.pointer (some ⟨w.heap.size, 0, none⟩), .pointer (some ⟨w.heap.size + 1, 0, none⟩)], .func (.func 207) #[] #[.pointer (some ⟨w.heap.size, 0, none⟩), .pointer (some ⟨w.heap.size + 1, 0, none⟩)], .func (.func 208) #[] #[.pointer (some ⟨w.heap.size, 0, none⟩), .pointer (some ⟨w.heap.size + 1, 0, none⟩)]] 1)).heap[w.heap.size]? = some (.cells #[p] 142 (0, 0)) ∧
    (((w.alloc (.cells #[p] 142)).alloc (.cells #[q] 261)).alloc (.cells #[.func (.func 202) #[] #[.pointer (some ⟨w.heap.size, 0, none⟩), .pointer (some ⟨w.heap.size + 1, 0, none⟩)], .func (.func 203) #[] #[.pointer (some ⟨w.heap.size, 0, none⟩), .pointer (some ⟨w.heap.size + 1, 0, none⟩)], .func (.func 204) #[] #[.pointer (some ⟨w.heap.size, 0, none⟩), .pointer (some ⟨w.heap.size + 1, 0, none⟩)], .func (.func 205) #[] #[.pointer (some ⟨w.heap.size, 0, none⟩), .pointer (some ⟨w.heap.size + 1, 0, none⟩)], .func (.func 206) #[] #[.pointer (some ⟨w.heap.size, 0, none⟩), .pointer (some ⟨w.heap.size + 1, 0, none⟩)], .func (.func 207) #[] #[.pointer (some ⟨w.heap.size, 0, none⟩), .pointer (some ⟨w.heap.size + 1, 0, none⟩)], .func (.func 208) #[] #[.pointer (some ⟨w.heap.size, 0, none⟩), .pointer (some ⟨w.heap.size + 1, 0, none⟩)]] 1)).heap[w.heap.size + 1]? = some (.cells #[q] 261 (0, 0)) ∧
    ∀ (k g : Nat), [202, 203, 204, 205, 206, 207, 208][k]? = some g → (((w.alloc (.cells #[p] 142)).alloc (.cells #[q] 261)).alloc (.cells #[.func (.func 202) #[] #[.pointer (some ⟨w.heap.size, 0, none⟩), .pointer (some ⟨w.heap.size + 1, 0, none⟩)], .func (.func 203) #[] #[.pointer (some ⟨w.heap.size, 0, none⟩), .pointer (some ⟨w.heap.size + 1, 0, none⟩)], .func (.func 204) #[] #[.pointer (some ⟨w.heap.size, 0, none⟩), .pointer (some ⟨w.heap.size + 1, 0, none⟩)], .func (.func 205) #[] #[.pointer (some ⟨w.heap.size, 0, none⟩), .pointer (some ⟨w.heap.size + 1, 0, none⟩)], .func (.func 206) #[] #[.pointer (some ⟨w.heap.size, 0, none⟩), .pointer (some ⟨w.heap.size + 1, 0, none⟩)], .func (.func 207) #[] #[.pointer (some ⟨w.heap.size, 0, none⟩), .pointer (some ⟨w.heap.size + 1, 0, none⟩)], .func (.func 208) #[] #[.pointer (some ⟨w.heap.size, 0, none⟩), .pointer (some ⟨w.heap.size + 1, 0, none⟩)]] 1)).cell? ⟨w.heap.size + 1 + 1, k, none⟩ = some (.func (.func g) #[] #[.pointer (some ⟨w.heap.size, 0, none⟩), .pointer (some ⟨w.heap.size + 1, 0, none⟩)]) := by
  have h1 := heap_alloc_new (w.alloc (.cells #[p] 142)) (.cells #[q] 261)
  rw [show (w.alloc (.cells #[p] 142)).heap.size = w.heap.size + 1 by simp] at h1
  have h2 := heap_alloc_new ((w.alloc (.cells #[p] 142)).alloc (.cells #[q] 261)) (.cells #[.func (.func 202) #[] #[.pointer (some ⟨w.heap.size, 0, none⟩), .pointer (some ⟨w.heap.size + 1, 0, none⟩)], .func (.func 203) #[] #[.pointer (some ⟨w.heap.size, 0, none⟩), .pointer (some ⟨w.heap.size + 1, 0, none⟩)], .func (.func 204) #[] #[.pointer (some ⟨w.heap.size, 0, none⟩), .pointer (some ⟨w.heap.size + 1, 0, none⟩)], .func (.func 205) #[] #[.pointer (some ⟨w.heap.size, 0, none⟩), .pointer (some ⟨w.heap.size + 1, 0, none⟩)], .func (.func 206) #[] #[.pointer (some ⟨w.heap.size, 0, none⟩), .pointer (some ⟨w.heap.size + 1, 0, none⟩)], .func (.func 207) #[] #[.pointer (some ⟨w.heap.size, 0, none⟩), .pointer (some ⟨w.heap.size + 1, 0, none⟩)], .func (.func 208) #[] #[.pointer (some ⟨w.heap.size, 0, none⟩), .pointer (some ⟨w.heap.size + 1, 0, none⟩)]] 1)
  rw [show ((w.alloc (.cells #[p] 142)).alloc (.cells #[q] 261)).heap.size = w.heap.size + 1 + 1 by simp] at h2
  refine ⟨(Keep.alloc (fun _ => False) _ _).old ((Keep.alloc (fun _ => False) _ _).old (heap_alloc_new w _) id) id, (Keep.alloc (fun _ => False) _ _).old h1 id, fun k g hg => ?_⟩
  rw [cell_of_row _ _ _ _ _ (0, 0) h2]
  match k, hg with
  | 0, hg => simp at hg; subst hg; rfl
  | 1, hg => simp at hg; subst hg; rfl
  | 2, hg => simp at hg; subst hg; rfl
  | 3, hg => simp at hg; subst hg; rfl
  | 4, hg => simp at hg; subst hg; rfl
  | 5, hg => simp at hg; subst hg; rfl
  | 6, hg => simp at hg; subst hg; rfl
theorem enter_field1 (args : Array Value) (w : World) : (callFunc 202 args).run Tryz.prog w = .ok (.enter 202 args) w := by kernel_rfl
theorem enter_field2 (args : Array Value) (w : World) : (callFunc 203 args).run Tryz.prog w = .ok (.enter 203 args) w := by kernel_rfl
theorem enter_field3 (args : Array Value) (w : World) : (callFunc 204 args).run Tryz.prog w = .ok (.enter 204 args) w := by kernel_rfl
theorem enter_field4 (args : Array Value) (w : World) : (callFunc 205 args).run Tryz.prog w = .ok (.enter 205 args) w := by kernel_rfl
theorem enter_field5 (args : Array Value) (w : World) : (callFunc 206 args).run Tryz.prog w = .ok (.enter 206 args) w := by kernel_rfl
theorem enter_field6 (args : Array Value) (w : World) : (callFunc 207 args).run Tryz.prog w = .ok (.enter 207 args) w := by kernel_rfl
theorem enter_field7 (args : Array Value) (w : World) : (callFunc 208 args).run Tryz.prog w = .ok (.enter 208 args) w := by kernel_rfl
theorem field_run : ∀ g ∈ [202, 203, 204, 205, 206, 207, 208], ∀ args w, (callFunc g args).run Tryz.prog w = .ok (.enter g args) w := by
  intro g hg args w
  simp only [List.mem_cons, List.not_mem_nil, or_false] at hg
  rcases hg with rfl | rfl | rfl | rfl | rfl | rfl | rfl
  · exact enter_field1 args w
  · exact enter_field2 args w
  · exact enter_field3 args w
  · exact enter_field4 args w
  · exact enter_field5 args w
  · exact enter_field6 args w
  · exact enter_field7 args w
theorem req_in_wait {x : PWait} {j : Nat} {u : Value} (h : x.r.cells[j]? = some u) : x.cells[j]? = some u := by
  have he : x.r.cells = x.cells.take 16 := rfl
  rw [he, List.getElem?_take] at h
  split at h
  · exact h
  · cases h
theorem field_any (wS w : World) (GB WB : Nat) (sv : Value) (l : List Int) (h : Gt wS GB WB sv l w) (B0 B1 b o : Nat) (h0 : w.heap[B0]? = some (.cells #[.pointer (some ⟨GB, 0, none⟩)] 142 (0, 0))) (h1 : w.heap[B1]? = some (.cells #[.pointer (some ⟨b, o, none⟩)] 261 (0, 0)))
    (x : PReq) (hx : x.Ok) (hp : ∀ j u, x.cells[j]? = some u → w.cell? ⟨b, o + j, none⟩ = some u) (hl : l.length ≤ 1000000000) (k g : Nat) (p : List Int) (hg : [202, 203, 204, 205, 206, 207, 208][k]? = some g) (hpc : (reqP x)[k]? = some p) :
    Calls Tryz.prog g #[.pointer (some ⟨B0, 0, none⟩), .pointer (some ⟨B1, 0, none⟩)] w fun e w' => e = .returned (.tuple #[]) ∧ GWrote wS GB WB sv (l ++ p) w w' := by
  match k, hg, hpc with
  | 0, hg, hpc => simp [reqP] at hg hpc; subst hg; subst hpc; exact field1_any wS w GB WB sv l h B0 B1 b o h0 h1 x hx hp hl
  | 1, hg, hpc => simp [reqP] at hg hpc; subst hg; subst hpc; exact field2_any wS w GB WB sv l h B0 B1 b o h0 h1 x hx hp hl
  | 2, hg, hpc => simp [reqP] at hg hpc; subst hg; subst hpc; exact field3_any wS w GB WB sv l h B0 B1 b o h0 h1 x hx hp hl
  | 3, hg, hpc => simp [reqP] at hg hpc; subst hg; subst hpc; exact field4_any wS w GB WB sv l h B0 B1 b o h0 h1 x hx hp hl
  | 4, hg, hpc => simp [reqP] at hg hpc; subst hg; subst hpc; exact field5_any wS w GB WB sv l h B0 B1 b o h0 h1 x hx hp hl
  | 5, hg, hpc => simp [reqP] at hg hpc; subst hg; subst hpc; exact field6_any wS w GB WB sv l h B0 B1 b o h0 h1 x hx hp hl
  | 6, hg, hpc => simp [reqP] at hg hpc; subst hg; subst hpc; exact field7_any wS w GB WB sv l h B0 B1 b o h0 h1 x hx hp hl

set_option maxHeartbeats 4000000 in
theorem stop_any (wS w : World) (GB WB : Nat) (sv : Value) (l : List Int) (h : Gt wS GB WB sv l w) : Calls Tryz.prog 157 #[.pointer (some ⟨GB, 0, none⟩)] w fun e w' => e = .returned (.bool false) ∧ w' = w := by
  have g0 := h.cells
  clear h
  go_enter Tryz.func157, Tryz.ntmps157
  go_wp2_with fail
  go_ret
  exact ⟨rfl, rfl⟩

set_option maxHeartbeats 8000000 in
theorem idle_any (wS w : World) (GB WB : Nat) (sv : Value) (l : List Int) (h : Gt wS GB WB sv l w) (b o : Nat) (x : PIdle) (hx : x.Ok) (hp : ∀ j u, x.cells[j]? = some u → w.cell? ⟨b, o + j, none⟩ = some u) (hfr : Free sv WB b) (hnn : 0 ≤ x.number) (hl : l.length ≤ 900000000) :
    Calls Tryz.prog 166 #[.pointer (some ⟨GB, 0, none⟩), .pointer (some ⟨b, o, none⟩)] w fun e w' => e = .returned (.tuple #[]) ∧ GWrote wS GB WB sv (l ++ idleB x) w w' := by
  have H := Lib.hid h
  have HP0 := Lib.hid hp
  have HX := Lib.hid hx
  have HFR := Lib.hid hfr
  have hr := intB_len x.d.radius
  clear h hp hx hfr
  go_enter Tryz.func166, Tryz.ntmps166
  go_wp2_with fail
  refine (gid_any wS w GB WB sv l H.out b o x.d.i0 x.d.i1 x.d.i2 x.d.i3 x.d.i4 x.d.i5 x.d.i6 x.d.i7 ⟨(HP0.out 0 _ rfl), (HP0.out 1 _ rfl), (HP0.out 2 _ rfl), (HP0.out 3 _ rfl), (HP0.out 4 _ rfl), (HP0.out 5 _ rfl), (HP0.out 6 _ rfl), (HP0.out 7 _ rfl)⟩ (by omega)).mono ?_
  rintro e w1 ⟨rfl, hb0⟩
  have HE0 := Lib.hid hb0
  clear hb0
  obtain ⟨sv1, hg1, hk1, hn1⟩ := HE0.out
  have HG1 := Lib.hid hg1
  clear hg1
  have HP1 := Lib.hid (fun (j : Nat) (u : Value) (hu : x.cells[j]? = some u) => hk1.cell (HP0.out j u hu) HFR.out.not)
  go_wp2_with fail
  refine (gpoint_any wS w1 GB WB sv1 (l ++ [x.d.i0, x.d.i1, x.d.i2, x.d.i3, x.d.i4, x.d.i5, x.d.i6, x.d.i7]) HG1.out b (o + 8) x.d.ax x.d.ay ⟨(HP1.out 8 _ rfl), (HP1.out 9 _ rfl)⟩ HX.out.d.at_.1 HX.out.d.at_.2 (by simp only [pointB, List.length_append, List.length_cons, List.length_nil]; omega)).mono ?_
  rintro e w2 ⟨rfl, hb1⟩
  have HE1 := Lib.hid (GWrote.step hk1 hn1 hb1)
  clear hb1
  obtain ⟨sv2, hg2, hk2, hn2⟩ := HE1.out
  have HG2 := Lib.hid hg2
  clear hg2
  have HP2 := Lib.hid (fun (j : Nat) (u : Value) (hu : x.cells[j]? = some u) => hk2.cell (HP0.out j u hu) HFR.out.not)
  go_wp2_with fail
  refine (octet_any wS w2 GB WB sv2 (l ++ [x.d.i0, x.d.i1, x.d.i2, x.d.i3, x.d.i4, x.d.i5, x.d.i6, x.d.i7] ++ pointB x.d.ax x.d.ay) HG2.out b (o + 10) x.d.seats (HP2.out 10 _ rfl) (by simp only [pointB, List.length_append, List.length_cons, List.length_nil]; omega)).mono ?_
  rintro e w3 ⟨rfl, hb2⟩
  have HE2 := Lib.hid (GWrote.step hk2 hn2 hb2)
  clear hb2
  obtain ⟨sv3, hg3, hk3, hn3⟩ := HE2.out
  have HG3 := Lib.hid hg3
  clear hg3
  have HP3 := Lib.hid (fun (j : Nat) (u : Value) (hu : x.cells[j]? = some u) => hk3.cell (HP0.out j u hu) HFR.out.not)
  go_wp2_with fail
  refine (octet_any wS w3 GB WB sv3 (l ++ [x.d.i0, x.d.i1, x.d.i2, x.d.i3, x.d.i4, x.d.i5, x.d.i6, x.d.i7] ++ pointB x.d.ax x.d.ay ++ [x.d.seats]) HG3.out b (o + 11) x.d.cls (HP3.out 11 _ rfl) (by simp only [pointB, List.length_append, List.length_cons, List.length_nil]; omega)).mono ?_
  rintro e w4 ⟨rfl, hb3⟩
  have HE3 := Lib.hid (GWrote.step hk3 hn3 hb3)
  clear hb3
  obtain ⟨sv4, hg4, hk4, hn4⟩ := HE3.out
  have HG4 := Lib.hid hg4
  clear hg4
  have HP4 := Lib.hid (fun (j : Nat) (u : Value) (hu : x.cells[j]? = some u) => hk4.cell (HP0.out j u hu) HFR.out.not)
  go_wp2_with fail
  refine (whole_any wS w4 GB WB sv4 (l ++ [x.d.i0, x.d.i1, x.d.i2, x.d.i3, x.d.i4, x.d.i5, x.d.i6, x.d.i7] ++ pointB x.d.ax x.d.ay ++ [x.d.seats] ++ [x.d.cls]) HG4.out b (o + 12) x.d.radius (HP4.out 12 _ rfl) HX.out.d.radius (by simp only [pointB, List.length_append, List.length_cons, List.length_nil]; omega)).mono ?_
  rintro e w5 ⟨rfl, hb4⟩
  have HE4 := Lib.hid (GWrote.step hk4 hn4 hb4)
  clear hb4
  obtain ⟨sv5, hg5, hk5, hn5⟩ := HE4.out
  have HG5 := Lib.hid hg5
  clear hg5
  have HP5 := Lib.hid (fun (j : Nat) (u : Value) (hu : x.cells[j]? = some u) => hk5.cell (HP0.out j u hu) HFR.out.not)
  go_wp2_with fail
  refine (nat_any wS w5 GB WB sv5 (l ++ [x.d.i0, x.d.i1, x.d.i2, x.d.i3, x.d.i4, x.d.i5, x.d.i6, x.d.i7] ++ pointB x.d.ax x.d.ay ++ [x.d.seats] ++ [x.d.cls] ++ intB x.d.radius) HG5.out b (o + 13) x.number 9223372036854775807 (HP5.out 13 _ rfl) hnn HX.out.number (by simp only [pointB, List.length_append, List.length_cons, List.length_nil]; omega)).mono ?_
  rintro e w6 ⟨rfl, hb5⟩
  have HE5 := Lib.hid (GWrote.step hk5 hn5 hb5)
  clear hb5
  go_wp2_with fail
  exact bodyPost_end (v := .tuple #[]) (by simp [results, Tryz.results166, go_sem]) rfl ⟨rfl, by first | exact HE5.out | (simpa only [idleB, List.append_assoc] using HE5.out)⟩

set_option maxHeartbeats 8000000 in
theorem edge_any (wS w : World) (GB WB : Nat) (sv : Value) (l : List Int) (h : Gt wS GB WB sv l w) (b o : Nat) (x : PEdge) (hx : x.Ok) (hp : ∀ j u, x.cells[j]? = some u → w.cell? ⟨b, o + j, none⟩ = some u) (hfr : Free sv WB b) (BX : Nat) (hbx : w.heap[BX]? = some (.cells #[.pointer (some ⟨GB, 0, none⟩)] 142 (0, 0))) (hfb : Free sv WB BX) (hnr : 0 ≤ x.r) (hnc : 0 ≤ x.c) (hnw : 0 ≤ x.w) (hl : l.length ≤ 900000000) :
    Calls Tryz.prog 168 #[.pointer (some ⟨b, o, none⟩), .pointer (some ⟨BX, 0, none⟩)] w fun e w' => e = .returned (.tuple #[]) ∧ GWrote wS GB WB sv (l ++ edgeB x) w w' := by
  have H := Lib.hid h
  have HP0 := Lib.hid hp
  have HX := Lib.hid hx
  have HFR := Lib.hid hfr
  have hrr := natB_len hx.r
  have hrc := natB_len hx.c
  have hrw := natB_len hx.w
  have pB := ptr_cell hbx
  have HFB := Lib.hid hfb
  clear h hp hx hfr hbx hfb
  go_enter Tryz.func168, Tryz.ntmps168
  go_wp2_with fail
  go_still_tail 4, (by kernel_rfl)
  change wpList _ _ _ _ _ w.drew
  have HD0 := Lib.hid H.out.drew
  go_wp2_with fail
  refine (nat_any wS w.drew GB WB sv l HD0.out b o x.r 9223372036854775807 (HP0.out 0 _ rfl) hnr HX.out.r (by first | omega | (simp only [List.length_append]; omega))).mono ?_
  rintro e w1 ⟨rfl, hb0⟩
  replace hb0 := hb0.after (Keep.drew _ _)
  have HE0 := Lib.hid hb0
  clear hb0
  obtain ⟨sv1, hg1, hk1, hn1⟩ := HE0.out
  have HG1 := Lib.hid hg1
  clear hg1
  have HP1 := Lib.hid (fun (j : Nat) (u : Value) (hu : x.cells[j]? = some u) => hk1.cell (HP0.out j u hu) HFR.out.not)
  have pB1 := hk1.cell pB HFB.out.not
  go_wp2_with fail
  go_still_tail 4, (by kernel_rfl)
  change wpList _ _ _ _ _ w1.drew
  have HD1 := Lib.hid HG1.out.drew
  go_wp2_with fail
  refine (nat_any wS w1.drew GB WB sv1 (l ++ varB x.r.toNat) HD1.out b (o + 1) x.c 9223372036854775807 (HP1.out 1 _ rfl) hnc HX.out.c (by first | omega | (simp only [List.length_append]; omega))).mono ?_
  rintro e w2 ⟨rfl, hb1⟩
  replace hb1 := hb1.after (Keep.drew _ _)
  have HE1 := Lib.hid (GWrote.step hk1 hn1 hb1)
  clear hb1
  obtain ⟨sv2, hg2, hk2, hn2⟩ := HE1.out
  have HG2 := Lib.hid hg2
  clear hg2
  have HP2 := Lib.hid (fun (j : Nat) (u : Value) (hu : x.cells[j]? = some u) => hk2.cell (HP0.out j u hu) HFR.out.not)
  have pB2 := hk2.cell pB HFB.out.not
  go_wp2_with fail
  go_still_tail 4, (by kernel_rfl)
  change wpList _ _ _ _ _ w2.drew
  have HD2 := Lib.hid HG2.out.drew
  go_wp2_with fail
  refine (nat_any wS w2.drew GB WB sv2 (l ++ varB x.r.toNat ++ varB x.c.toNat) HD2.out b (o + 2) x.w 9223372036854775807 (HP2.out 2 _ rfl) hnw HX.out.w (by first | omega | (simp only [List.length_append]; omega))).mono ?_
  rintro e w3 ⟨rfl, hb2⟩
  replace hb2 := hb2.after (Keep.drew _ _)
  have HE2 := Lib.hid (GWrote.step hk2 hn2 hb2)
  clear hb2
  go_wp2_with fail
  exact bodyPost_end (v := .tuple #[]) (by simp [results, Tryz.results168, go_sem]) rfl ⟨rfl, by first | exact HE2.out | (simpa only [edgeB, List.append_assoc] using HE2.out)⟩

set_option maxHeartbeats 8000000 in
theorem pair_any (wS w : World) (GB WB : Nat) (sv : Value) (l : List Int) (h : Gt wS GB WB sv l w) (b o : Nat) (x : PPair) (hx : x.Ok) (hp : ∀ j u, x.cells[j]? = some u → w.cell? ⟨b, o + j, none⟩ = some u) (hfr : Free sv WB b) (BX : Nat) (hbx : w.heap[BX]? = some (.cells #[.pointer (some ⟨GB, 0, none⟩)] 142 (0, 0))) (hfb : Free sv WB BX) (hnr : 0 ≤ x.r) (hnc : 0 ≤ x.c) (hl : l.length ≤ 900000000) :
    Calls Tryz.prog 170 #[.pointer (some ⟨b, o, none⟩), .pointer (some ⟨BX, 0, none⟩)] w fun e w' => e = .returned (.tuple #[]) ∧ GWrote wS GB WB sv (l ++ pairB x) w w' := by
  have H := Lib.hid h
  have HP0 := Lib.hid hp
  have HX := Lib.hid hx
  have HFR := Lib.hid hfr
  have hrr := natB_len hx.r
  have hrc := natB_len hx.c
  have pB := ptr_cell hbx
  have HFB := Lib.hid hfb
  clear h hp hx hfr hbx hfb
  go_enter Tryz.func170, Tryz.ntmps170
  go_wp2_with fail
  go_still_tail 4, (by kernel_rfl)
  change wpList _ _ _ _ _ w.drew
  have HD0 := Lib.hid H.out.drew
  go_wp2_with fail
  refine (nat_any wS w.drew GB WB sv l HD0.out b o x.r 9223372036854775807 (HP0.out 0 _ rfl) hnr HX.out.r (by first | omega | (simp only [List.length_append]; omega))).mono ?_
  rintro e w1 ⟨rfl, hb0⟩
  replace hb0 := hb0.after (Keep.drew _ _)
  have HE0 := Lib.hid hb0
  clear hb0
  obtain ⟨sv1, hg1, hk1, hn1⟩ := HE0.out
  have HG1 := Lib.hid hg1
  clear hg1
  have HP1 := Lib.hid (fun (j : Nat) (u : Value) (hu : x.cells[j]? = some u) => hk1.cell (HP0.out j u hu) HFR.out.not)
  have pB1 := hk1.cell pB HFB.out.not
  go_wp2_with fail
  go_still_tail 4, (by kernel_rfl)
  change wpList _ _ _ _ _ w1.drew
  have HD1 := Lib.hid HG1.out.drew
  go_wp2_with fail
  refine (nat_any wS w1.drew GB WB sv1 (l ++ varB x.r.toNat) HD1.out b (o + 1) x.c 9223372036854775807 (HP1.out 1 _ rfl) hnc HX.out.c (by first | omega | (simp only [List.length_append]; omega))).mono ?_
  rintro e w2 ⟨rfl, hb1⟩
  replace hb1 := hb1.after (Keep.drew _ _)
  have HE1 := Lib.hid (GWrote.step hk1 hn1 hb1)
  clear hb1
  go_wp2_with fail
  exact bodyPost_end (v := .tuple #[]) (by simp [results, Tryz.results170, go_sem]) rfl ⟨rfl, by first | exact HE1.out | (simpa only [pairB, List.append_assoc] using HE1.out)⟩

set_option maxHeartbeats 8000000 in
theorem waiting_any (wS w : World) (GB WB : Nat) (sv : Value) (l : List Int) (h : Gt wS GB WB sv l w) (b o : Nat) (x : PWait) (hx : x.Ok) (hp : ∀ j u, x.cells[j]? = some u → w.cell? ⟨b, o + j, none⟩ = some u) (hfr : Free sv WB b) (hs0 : 0 ≤ x.since) (hn0 : 0 ≤ x.number) (hl : l.length ≤ 900000000) :
    Calls Tryz.prog 164 #[.pointer (some ⟨GB, 0, none⟩), .pointer (some ⟨b, o, none⟩)] w fun e w' => e = .returned (.tuple #[]) ∧ GWrote wS GB WB sv (l ++ waitB x) w w' := by
  have H := Lib.hid h
  have HP0 := Lib.hid hp
  have HX := Lib.hid hx
  have HFR := Lib.hid hfr
  have hr := reqP_all x.r
  have hrs := natB_len hx.since
  have hb : b < w.heap.size := World.block_lt_of_cell? w ⟨b, o, none⟩ (hp 0 _ rfl)
  clear h hp hx hfr
  go_enter Tryz.func164, Tryz.ntmps164
  go_wp2_with fail
  refine (fields_any w (.pointer (some ⟨GB, 0, none⟩)) (.pointer (some ⟨b, o, none⟩)) ⟨_, rfl⟩ ⟨_, rfl⟩).mono ?_
  rintro e w1 ⟨rfl, hw1⟩
  have HB := Lib.hid (fields_boxes w (.pointer (some ⟨GB, 0, none⟩)) (.pointer (some ⟨b, o, none⟩)))
  rw [← hw1] at HB
  have HK := Lib.hid (show Keep (fun _ => False) w w1 from by rw [hw1]; exact ((Keep.alloc (fun _ => False) _ _).trans (Keep.alloc (fun _ => False) _ _) (fun _ _ h => h) (fun _ _ h => h)).trans (Keep.alloc (fun _ => False) _ _) (fun _ _ h => h) (fun _ _ h => h))
  have hs1 : w1.heap.size = w.heap.size + 3 := by rw [hw1]; simp
  have HG1 := Lib.hid (H.out.keep HK.out)
  clear hw1
  have HF0 := Lib.hid (Free.new H.out (b := w.heap.size) (by omega))
  have HF1 := Lib.hid (Free.new H.out (b := w.heap.size + 1) (by omega))
  have HF2 := Lib.hid (Free.new H.out (b := w.heap.size + 1 + 1) (by omega))
  generalize w.heap.size + 1 + 1 = B2 at *
  generalize w.heap.size + 1 = B1 at *
  have HWE := Lib.hid (show ∃ B0, w.heap.size = B0 from ⟨_, rfl⟩)
  obtain ⟨B0, hB0⟩ := HWE.out
  rw [hB0] at HB HF0
  clear HWE hB0 hs1
  go_wp2_with fail
  go_loopw [12] (fun i wr => Hid (∃ k : Nat, i = .int .i64 k ∧ k ≤ 7 ∧ GWrote wS GB WB sv (l ++ ((reqP x.r).take k).flatten) w1 wr)) (fun i _ => 7 - (intOf i).toNat)
  case atStart => exact Lib.hid ⟨0, rfl, Nat.zero_le _, by simpa using GWrote.nil HG1.out⟩
  case round =>
    obtain ⟨k, rfl, hk, hw⟩ := hrel.out
    clear hrel
    obtain ⟨sv1, hg, hkp, hn⟩ := hw
    have HG := Lib.hid hg
    have HKP := Lib.hid hkp
    have HN := Lib.hid hn
    clear hg hkp hn
    have HP := Lib.hid (fun (j : Nat) (u : Value) (hu : x.cells[j]? = some u) => HKP.out.cell (HK.out.cell (HP0.out j u hu) id) HFR.out.not)
    have hlen := reqP_len x.r k
    by_cases hlt : k < 7
    · obtain ⟨g, hgk⟩ : ∃ g, [202, 203, 204, 205, 206, 207, 208][k]? = some g := ⟨[202, 203, 204, 205, 206, 207, 208][k]'(by simpa using hlt), List.getElem?_eq_getElem _⟩
      obtain ⟨p, hpk⟩ : ∃ p, (reqP x.r)[k]? = some p := ⟨(reqP x.r)[k]'(by simpa [reqP] using hlt), List.getElem?_eq_getElem _⟩
      have hcell := HKP.out.cell (HB.out.2.2 k g hgk) HF2.out.not
      have HCALL := Lib.hid (field_any wS wr GB WB sv1 (l ++ ((reqP x.r).take k).flatten) HG.out B0 B1 b o (HKP.out.old HB.out.1 HF0.out.not) (HKP.out.old HB.out.2.1 HF1.out.not) x.r HX.out.r (fun j u hu => HP.out j u (req_in_wait hu)) (by rw [List.length_append]; omega) k g p hgk hpk)
      have hrun := field_run g (List.mem_of_getElem? hgk)
      have HT := Lib.hid (take_flat hpk)
      clear hgk hpk
      go_wp2_with fail
      refine HCALL.out.mono ?_
      rintro r w2 ⟨rfl, hb2⟩
      have HE := Lib.hid (show GWrote wS GB WB sv (l ++ ((reqP x.r).take (k + 1)).flatten) w1 w2 from by rw [HT.out, ← List.append_assoc]; exact GWrote.step HKP.out HN.out hb2)
      clear hb2 hcell hrun HCALL
      go_wp2_with fail
      go_roundw
      case rel => exact Lib.hid ⟨k + 1, by go_num, by omega, HE.out⟩
      case measure => simp [intOf]; omega
    · obtain rfl : 7 = k := by omega
      rw [show (reqP x.r).take 7 = reqP x.r from rfl] at HG
      clear hlt hlen
      as_aux_lemma =>
        go_wp2_with fail
        refine (nat_any wS wr GB WB sv1 (l ++ (reqP x.r).flatten) HG.out b (o + 16) x.since 9223372036854775807 (HP.out 16 _ rfl) hs0 HX.out.since (by simp only [List.length_append]; omega)).mono ?_
        rintro e w2 ⟨rfl, hb2⟩
        obtain ⟨sv2, hg2, hk2, hn2⟩ := GWrote.step HKP.out HN.out hb2
        have HG2 := Lib.hid hg2
        have HK2 := Lib.hid hk2
        have HN2 := Lib.hid hn2
        have HQ := Lib.hid (HK2.out.cell (HK.out.cell (HP0.out 17 _ rfl) id) HFR.out.not)
        clear hg2 hk2 hn2 hb2
        go_wp2_with fail
        refine (nat_any wS w2 GB WB sv2 (l ++ (reqP x.r).flatten ++ varB x.since.toNat) HG2.out b (o + 17) x.number 9223372036854775807 HQ.out hn0 HX.out.number (by simp only [List.length_append]; omega)).mono ?_
        rintro e w3 ⟨rfl, hb3⟩
        have HE := Lib.hid ((GWrote.step HK2.out HN2.out hb3).after HK.out)
        clear hb3
        go_wp2_with fail
        exact bodyPost_end (v := .tuple #[]) (by simp [results, Tryz.results164, go_sem]) rfl ⟨rfl, by simpa only [waitB, List.append_assoc] using HE.out⟩
end Go.Proofs.YtcaicgipibcicaaGreat
