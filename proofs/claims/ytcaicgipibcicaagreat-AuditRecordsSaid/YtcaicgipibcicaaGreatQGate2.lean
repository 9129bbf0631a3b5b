/- The journal's gate: a request's fields. Printed by wip/gengate2.py. -/
import Derived.Test.YtcaicgipibcicaaGreatQGate
import Derived.Test.YtcaicgipibcicaaGreatQWr
namespace Go.Proofs.YtcaicgipibcicaaGreat
set_option maxRecDepth 100000
set_option linter.unusedVariables false
set_option linter.unusedSimpArgs false
open Go.RowKit Go.Sort

theorem ptr_cell {w : World} {H : Nat} {v : Value} {t : TypeId} (h : w.heap[H]? = some (.cells #[v] t (0, 0))) : w.cell? ⟨H, 0, none⟩ = some v := by
  rw [cell_of_row w H _ _ t (0, 0) h]; rfl
theorem fields_any (w : World) (p q : Value) (hp : ∃ a, p = .pointer a) (hq : ∃ a, q = .pointer a) :
    Calls Tryz.prog 185 #[p, q] w fun e w' => e = .returned (.slice (some ⟨w.heap.size + 1 + 1, 0, none⟩) 7 7) ∧ w' = ((w.alloc (.cells #[p] 142)).alloc (.cells #[q] 261)).alloc (.cells #[.func (.func 202) #[] #[.pointer (some ⟨w.heap.size, 0, none⟩), .pointer (some ⟨w.heap.size + 1, 0, none⟩)], .func (.func 203) #[] #[.pointer (some ⟨w.heap.size, 0, none⟩), .pointer (some ⟨w.heap.size + 1, 0, none⟩)], .func (.func 204) #[] #[.pointer (some ⟨w.heap.size, 0, none⟩), .pointer (some ⟨w.heap.size + 1, 0, none⟩)], .func (.func 205) #[] #[.pointer (some ⟨w.heap.size, 0, none⟩), .pointer (some ⟨w.heap.size + 1, 0, none⟩)], .func (.func 206) #[] #[.pointer (some ⟨w.heap.size, 0, none⟩), .pointer (some ⟨w.heap.size + 1, 0, none⟩)], .func (.func 207) #[] #[.pointer (some ⟨w.heap.size, 0, none⟩), .pointer (some ⟨w.heap.size + 1, 0, none⟩)], .func (.func 208) #[] #[.pointer (some ⟨w.heap.size, 0, none⟩), .pointer (some ⟨w.heap.size + 1, 0, none⟩)]] 1) := by
  have hmf : ∀ (fn : Fn) (first cap : Array Value) (w : World), (Instr.makeFunc fn first cap).run Tryz.prog w = .ok (.func fn first cap) w := fun _ _ _ _ => rfl
  obtain ⟨p, rfl⟩ := hp
  obtain ⟨q, rfl⟩ := hq
  go_enter Tryz.func185, Tryz.ntmps185
  go_wp2_with fail
  go_ret
  exact ⟨rfl, rfl⟩

set_option maxHeartbeats 4000000 in
theorem field1_any (wS w : World) (GB WB : Nat) (sv : Value) (l : List Int) (h : Gt wS GB WB sv l w) (B0 B1 b o : Nat) (h0 : w.heap[B0]? = some (.cells #[.pointer (some ⟨GB, 0, none⟩)] 142 (0, 0))) (h1 : w.heap[B1]? = some (.cells #[.pointer (some ⟨b, o, none⟩)] 261 (0, 0)))
    (x : PReq) (hx : x.Ok) (hp : ∀ j u, x.cells[j]? = some u → w.cell? ⟨b, o + j, none⟩ = some u) (hl : l.length ≤ 1000000000) :
    Calls Tryz.prog 202 #[.pointer (some ⟨B0, 0, none⟩), .pointer (some ⟨B1, 0, none⟩)] w fun e w' => e = .returned (.tuple #[]) ∧ GWrote wS GB WB sv (l ++ [x.i0, x.i1, x.i2, x.i3, x.i4, x.i5, x.i6, x.i7]) w w' := by
  have H := Lib.hid h
  have HP := Lib.hid hp
  have HX := Lib.hid hx
  have p0 := ptr_cell h0
  have p1 := ptr_cell h1
  clear h h0 h1 hp hx
  go_enter Tryz.func202, Tryz.ntmps202
  go_still_tail 4, (by kernel_rfl)
  change wpList _ _ _ _ _ w.drew
  have HD := Lib.hid H.out.drew
  go_wp2_with fail
  refine (gid_any wS w.drew GB WB sv l HD.out b o x.i0 x.i1 x.i2 x.i3 x.i4 x.i5 x.i6 x.i7 ⟨(HP.out 0 _ rfl), (HP.out 1 _ rfl), (HP.out 2 _ rfl), (HP.out 3 _ rfl), (HP.out 4 _ rfl), (HP.out 5 _ rfl), (HP.out 6 _ rfl), (HP.out 7 _ rfl)⟩ hl).mono ?_
  rintro e w2 ⟨rfl, hb2⟩
  have HE := Lib.hid (hb2.after (Keep.drew _ _))
  clear hb2
  go_wp2_with fail
  exact bodyPost_end (v := .tuple #[]) (by simp [results, Tryz.results202, go_sem]) rfl ⟨rfl, HE.out⟩

set_option maxHeartbeats 4000000 in
theorem field2_any (wS w : World) (GB WB : Nat) (sv : Value) (l : List Int) (h : Gt wS GB WB sv l w) (B0 B1 b o : Nat) (h0 : w.heap[B0]? = some (.cells #[.pointer (some ⟨GB, 0, none⟩)] 142 (0, 0))) (h1 : w.heap[B1]? = some (.cells #[.pointer (some ⟨b, o, none⟩)] 261 (0, 0)))
    (x : PReq) (hx : x.Ok) (hp : ∀ j u, x.cells[j]? = some u → w.cell? ⟨b, o + j, none⟩ = some u) (hl : l.length ≤ 1000000000) :
    Calls Tryz.prog 203 #[.pointer (some ⟨B0, 0, none⟩), .pointer (some ⟨B1, 0, none⟩)] w fun e w' => e = .returned (.tuple #[]) ∧ GWrote wS GB WB sv (l ++ pointB x.fx x.fy) w w' := by
  have H := Lib.hid h
  have HP := Lib.hid hp
  have HX := Lib.hid hx
  have p0 := ptr_cell h0
  have p1 := ptr_cell h1
  clear h h0 h1 hp hx
  go_enter Tryz.func203, Tryz.ntmps203
  go_still_tail 4, (by kernel_rfl)
  change wpList _ _ _ _ _ w.drew
  have HD := Lib.hid H.out.drew
  go_wp2_with fail
  refine (gpoint_any wS w.drew GB WB sv l HD.out b (o + 8) x.fx x.fy ⟨(HP.out 8 _ rfl), (HP.out 9 _ rfl)⟩ HX.out.from_.1 HX.out.from_.2 hl).mono ?_
  rintro e w2 ⟨rfl, hb2⟩
  have HE := Lib.hid (hb2.after (Keep.drew _ _))
  clear hb2
  go_wp2_with fail
  exact bodyPost_end (v := .tuple #[]) (by simp [results, Tryz.results203, go_sem]) rfl ⟨rfl, HE.out⟩

set_option maxHeartbeats 4000000 in
theorem field3_any (wS w : World) (GB WB : Nat) (sv : Value) (l : List Int) (h : Gt wS GB WB sv l w) (B0 B1 b o : Nat) (h0 : w.heap[B0]? = some (.cells #[.pointer (some ⟨GB, 0, none⟩)] 142 (0, 0))) (h1 : w.heap[B1]? = some (.cells #[.pointer (some ⟨b, o, none⟩)] 261 (0, 0)))
    (x : PReq) (hx : x.Ok) (hp : ∀ j u, x.cells[j]? = some u → w.cell? ⟨b, o + j, none⟩ = some u) (hl : l.length ≤ 1000000000) :
    Calls Tryz.prog 204 #[.pointer (some ⟨B0, 0, none⟩), .pointer (some ⟨B1, 0, none⟩)] w fun e w' => e = .returned (.tuple #[]) ∧ GWrote wS GB WB sv (l ++ pointB x.tx x.ty) w w' := by
  have H := Lib.hid h
  have HP := Lib.hid hp
  have HX := Lib.hid hx
  have p0 := ptr_cell h0
  have p1 := ptr_cell h1
  clear h h0 h1 hp hx
  go_enter Tryz.func204, Tryz.ntmps204
  go_still_tail 4, (by kernel_rfl)
  change wpList _ _ _ _ _ w.drew
  have HD := Lib.hid H.out.drew
  go_wp2_with fail
  refine (gpoint_any wS w.drew GB WB sv l HD.out b (o + 10) x.tx x.ty ⟨(HP.out 10 _ rfl), (HP.out 11 _ rfl)⟩ HX.out.to_.1 HX.out.to_.2 hl).mono ?_
  rintro e w2 ⟨rfl, hb2⟩
  have HE := Lib.hid (hb2.after (Keep.drew _ _))
  clear hb2
  go_wp2_with fail
  exact bodyPost_end (v := .tuple #[]) (by simp [results, Tryz.results204, go_sem]) rfl ⟨rfl, HE.out⟩

set_option maxHeartbeats 4000000 in
theorem field4_any (wS w : World) (GB WB : Nat) (sv : Value) (l : List Int) (h : Gt wS GB WB sv l w) (B0 B1 b o : Nat) (h0 : w.heap[B0]? = some (.cells #[.pointer (some ⟨GB, 0, none⟩)] 142 (0, 0))) (h1 : w.heap[B1]? = some (.cells #[.pointer (some ⟨b, o, none⟩)] 261 (0, 0)))
    (x : PReq) (hx : x.Ok) (hp : ∀ j u, x.cells[j]? = some u → w.cell? ⟨b, o + j, none⟩ = some u) (hl : l.length ≤ 1000000000) :
    Calls Tryz.prog 205 #[.pointer (some ⟨B0, 0, none⟩), .pointer (some ⟨B1, 0, none⟩)] w fun e w' => e = .returned (.tuple #[]) ∧ GWrote wS GB WB sv (l ++ [x.seats]) w w' := by
  have H := Lib.hid h
  have HP := Lib.hid hp
  have HX := Lib.hid hx
  have p0 := ptr_cell h0
  have p1 := ptr_cell h1
  clear h h0 h1 hp hx
  go_enter Tryz.func205, Tryz.ntmps205
  go_still_tail 4, (by kernel_rfl)
  change wpList _ _ _ _ _ w.drew
  have HD := Lib.hid H.out.drew
  go_wp2_with fail
  refine (octet_any wS w.drew GB WB sv l HD.out b (o + 12) x.seats (HP.out 12 _ rfl) hl).mono ?_
  rintro e w2 ⟨rfl, hb2⟩
  have HE := Lib.hid (hb2.after (Keep.drew _ _))
  clear hb2
  go_wp2_with fail
  exact bodyPost_end (v := .tuple #[]) (by simp [results, Tryz.results205, go_sem]) rfl ⟨rfl, HE.out⟩

set_option maxHeartbeats 4000000 in
theorem field5_any (wS w : World) (GB WB : Nat) (sv : Value) (l : List Int) (h : Gt wS GB WB sv l w) (B0 B1 b o : Nat) (h0 : w.heap[B0]? = some (.cells #[.pointer (some ⟨GB, 0, none⟩)] 142 (0, 0))) (h1 : w.heap[B1]? = some (.cells #[.pointer (some ⟨b, o, none⟩)] 261 (0, 0)))
    (x : PReq) (hx : x.Ok) (hp : ∀ j u, x.cells[j]? = some u → w.cell? ⟨b, o + j, none⟩ = some u) (hl : l.length ≤ 1000000000) :
    Calls Tryz.prog 206 #[.pointer (some ⟨B0, 0, none⟩), .pointer (some ⟨B1, 0, none⟩)] w fun e w' => e = .returned (.tuple #[]) ∧ GWrote wS GB WB sv (l ++ [x.classes]) w w' := by
  have H := Lib.hid h
  have HP := Lib.hid hp
  have HX := Lib.hid hx
  have p0 := ptr_cell h0
  have p1 := ptr_cell h1
  clear h h0 h1 hp hx
  go_enter Tryz.func206, Tryz.ntmps206
  go_still_tail 4, (by kernel_rfl)
  change wpList _ _ _ _ _ w.drew
  have HD := Lib.hid H.out.drew
  go_wp2_with fail
  refine (octet_any wS w.drew GB WB sv l HD.out b (o + 13) x.classes (HP.out 13 _ rfl) hl).mono ?_
  rintro e w2 ⟨rfl, hb2⟩
  have HE := Lib.hid (hb2.after (Keep.drew _ _))
  clear hb2
  go_wp2_with fail
  exact bodyPost_end (v := .tuple #[]) (by simp [results, Tryz.results206, go_sem]) rfl ⟨rfl, HE.out⟩

set_option maxHeartbeats 4000000 in
theorem field6_any (wS w : World) (GB WB : Nat) (sv : Value) (l : List Int) (h : Gt wS GB WB sv l w) (B0 B1 b o : Nat) (h0 : w.heap[B0]? = some (.cells #[.pointer (some ⟨GB, 0, none⟩)] 142 (0, 0))) (h1 : w.heap[B1]? = some (.cells #[.pointer (some ⟨b, o, none⟩)] 261 (0, 0)))
    (x : PReq) (hx : x.Ok) (hp : ∀ j u, x.cells[j]? = some u → w.cell? ⟨b, o + j, none⟩ = some u) (hl : l.length ≤ 1000000000) :
    Calls Tryz.prog 207 #[.pointer (some ⟨B0, 0, none⟩), .pointer (some ⟨B1, 0, none⟩)] w fun e w' => e = .returned (.tuple #[]) ∧ GWrote wS GB WB sv (l ++ intB x.base) w w' := by
  have H := Lib.hid h
  have HP := Lib.hid hp
  have HX := Lib.hid hx
  have p0 := ptr_cell h0
  have p1 := ptr_cell h1
  clear h h0 h1 hp hx
  go_enter Tryz.func207, Tryz.ntmps207
  go_still_tail 4, (by kernel_rfl)
  change wpList _ _ _ _ _ w.drew
  have HD := Lib.hid H.out.drew
  go_wp2_with fail
  refine (whole_any wS w.drew GB WB sv l HD.out b (o + 14) x.base (HP.out 14 _ rfl) HX.out.base hl).mono ?_
  rintro e w2 ⟨rfl, hb2⟩
  have HE := Lib.hid (hb2.after (Keep.drew _ _))
  clear hb2
  go_wp2_with fail
  exact bodyPost_end (v := .tuple #[]) (by simp [results, Tryz.results207, go_sem]) rfl ⟨rfl, HE.out⟩

set_option maxHeartbeats 4000000 in
theorem field7_any (wS w : World) (GB WB : Nat) (sv : Value) (l : List Int) (h : Gt wS GB WB sv l w) (B0 B1 b o : Nat) (h0 : w.heap[B0]? = some (.cells #[.pointer (some ⟨GB, 0, none⟩)] 142 (0, 0))) (h1 : w.heap[B1]? = some (.cells #[.pointer (some ⟨b, o, none⟩)] 261 (0, 0)))
    (x : PReq) (hx : x.Ok) (hp : ∀ j u, x.cells[j]? = some u → w.cell? ⟨b, o + j, none⟩ = some u) (hl : l.length ≤ 1000000000) :
    Calls Tryz.prog 208 #[.pointer (some ⟨B0, 0, none⟩), .pointer (some ⟨B1, 0, none⟩)] w fun e w' => e = .returned (.tuple #[]) ∧ GWrote wS GB WB sv (l ++ intB x.ttl) w w' := by
  have H := Lib.hid h
  have HP := Lib.hid hp
  have HX := Lib.hid hx
  have p0 := ptr_cell h0
  have p1 := ptr_cell h1
  clear h h0 h1 hp hx
  go_enter Tryz.func208, Tryz.ntmps208
  go_still_tail 4, (by kernel_rfl)
  change wpList _ _ _ _ _ w.drew
  have HD := Lib.hid H.out.drew
  go_wp2_with fail
  refine (whole_any wS w.drew GB WB sv l HD.out b (o + 15) x.ttl (HP.out 15 _ rfl) HX.out.ttl hl).mono ?_
  rintro e w2 ⟨rfl, hb2⟩
  have HE := Lib.hid (hb2.after (Keep.drew _ _))
  clear hb2
  go_wp2_with fail
  exact bodyPost_end (v := .tuple #[]) (by simp [results, Tryz.results208, go_sem]) rfl ⟨rfl, HE.out⟩
end Go.Proofs.YtcaicgipibcicaaGreat
