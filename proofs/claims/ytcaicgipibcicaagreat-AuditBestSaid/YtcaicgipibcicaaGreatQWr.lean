/- Records in memory. -/
import Derived.Test.YtcaicgipibcicaaGreatQRFit3
import Derived.Test.YtcaicgipibcicaaGreatQClaim
import Derived.Deep.WholeRow
import Derived.Deep.RegionLaw
import Derived.Laws.MakeOwn
namespace Go.Proofs.YtcaicgipibcicaaGreat
set_option maxRecDepth 100000
set_option linter.unusedVariables false
open Go.RowKit Go.Sort

/-- A record, and where its lists lie. -/
structure RV where
  x : PRec
  wo : Option Addr
  wn : Nat
  wc : Nat
  ko : Option Addr
  kn : Nat
  kc : Nat
  eo : Option Addr
  en : Nat
  ec : Nat
  po : Option Addr
  pn : Nat
  pc : Nat
  yo : Option Addr
  yn : Nat
  yc : Nat
  zo : Option Addr
  zn : Nat
  zc : Nat
/-- It can be read there. -/
structure RV.In (w : World) (v : RV) : Prop where
  wl : v.x.ws.length = v.wn
  wr : RdC w v.wo (cellsOf PWait.cells v.x.ws)
  wb : v.wn ≤ 1048576
  kl : v.x.ds.length = v.kn
  kr : RdC w v.ko (cellsOf PIdle.cells v.x.ds)
  kb : v.kn ≤ 1048576
  el : v.x.es.length = v.en
  er : RdC w v.eo (cellsOf PEdge.cells v.x.es)
  eb : v.en ≤ 1048576
  pl : v.x.ps.length = v.pn
  pr : RdC w v.po (cellsOf PPair.cells v.x.ps)
  pb : v.pn ≤ 1048576
  yl : v.x.ys.length = v.yn
  yr : RdC w v.yo (cellsOf icell v.x.ys)
  yb : v.yn ≤ 1048576
  zl : v.x.zs.length = v.zn
  zr : RdC w v.zo (cellsOf icell v.x.zs)
  zb : v.zn ≤ 1048576
  ok : v.x.Ok
theorem RV.In.keep {w w' : World} {v : RV} (h : v.In w) (hb : Below w.heap.size w w') : v.In w' :=
  ⟨h.wl, h.wr.below hb, h.wb, h.kl, h.kr.below hb, h.kb, h.el, h.er.below hb, h.eb, h.pl, h.pr.below hb, h.pb, h.yl, h.yr.below hb, h.yb, h.zl, h.zr.below hb, h.zb, h.ok⟩
theorem cells9 {w : World} {b : Nat} {a0 a1 a2 a3 a4 a5 a6 a7 a8 : Value} {t : TypeId} (h : w.heap[b]? = some (.cells #[a0, a1, a2, a3, a4, a5, a6, a7, a8] t (0, 0))) :
    w.cell? ⟨b, 0, none⟩ = some a0 ∧ w.cell? ⟨b, 1, none⟩ = some a1 ∧ w.cell? ⟨b, 2, none⟩ = some a2 ∧ w.cell? ⟨b, 3, none⟩ = some a3 ∧ w.cell? ⟨b, 4, none⟩ = some a4 ∧ w.cell? ⟨b, 5, none⟩ = some a5 ∧ w.cell? ⟨b, 6, none⟩ = some a6 ∧ w.cell? ⟨b, 7, none⟩ = some a7 ∧ w.cell? ⟨b, 8, none⟩ = some a8 := by
  refine ⟨?_, ?_, ?_, ?_, ?_, ?_, ?_, ?_, ?_⟩ <;> rw [cell_of_row w b _ _ t (0, 0) h] <;> rfl
/-- A record in a box of its own. -/
structure RbRel (w : World) (v : RV) (H0 : Nat) (wr : World) : Prop where
  g : wr.heap[H0]? = some (.cells #[.int .i64 v.x.tick, .slice v.wo v.wn v.wc, .slice v.ko v.kn v.kc, .int .i64 v.x.rows, .int .i64 v.x.cols, .slice v.eo v.en v.ec, .slice v.po v.pn v.pc, .slice v.yo v.yn v.yc, .slice v.zo v.zn v.zc] 34 (0, 0))
  below : Below w.heap.size w wr
theorem RbRel.keep {w : World} {v : RV} {H0 : Nat} {wr w' : World} (h : RbRel w v H0 wr) (hb : Below wr.heap.size wr w') : RbRel w v H0 w' :=
  ⟨(Keep.of_below hb (Nat.le_refl _) (fun _ => False)).old h.g id, Below.next h.below hb⟩
theorem RbRel.one {w : World} {v : RV} {H0 : Nat} {wr : World} (h : RbRel w v H0 wr) (o : Obj) : RbRel w v H0 (wr.alloc o) := h.keep ((Below.refl _ _).alloc (Nat.le_refl _) _)
theorem RbRel.drewN {w : World} {v : RV} {H0 : Nat} {wr : World} (h : RbRel w v H0 wr) (n : Nat) : RbRel w v H0 (wr.drewN n) := ⟨h.g, below_drewN h.below n⟩
theorem RbRel.begin (w : World) (v : RV) : RbRel w v w.heap.size (w.alloc (.cells #[.int .i64 v.x.tick, .slice v.wo v.wn v.wc, .slice v.ko v.kn v.kc, .int .i64 v.x.rows, .int .i64 v.x.cols, .slice v.eo v.en v.ec, .slice v.po v.pn v.pc, .slice v.yo v.yn v.yc, .slice v.zo v.zn v.zc] 34)) :=
  ⟨heap_alloc_new w _, (Below.refl w.heap.size w).alloc (Nat.le_refl _) _⟩

/-! what is said of a record, step by step -/
theorem recE_1 {x : PRec} (h : sizesB x = false) : recE x = 1 := by simp [recE, h]
theorem recE_2 {x : PRec} (h1 : sizesB x = true) (h : waitsB x = false) : recE x = 1 := by simp [recE, h, h1]
theorem recE_3 {x : PRec} (h1 : sizesB x = true) (h2 : waitsB x = true) (h : idlesB x = false) : recE x = 1 := by simp [recE, h, h1, h2]
theorem recE_4 {x : PRec} (h1 : sizesB x = true) (h2 : waitsB x = true) (h3 : idlesB x = true) (h : shapeB x = false) : recE x = 170 := by simp [recE, h, h1, h2, h3]
theorem recE_5 {x : PRec} (h1 : sizesB x = true) (h2 : waitsB x = true) (h3 : idlesB x = true) (h4 : shapeB x = true) (h : matchF x.es x.ps = false) : recE x = 180 := by simp [recE, h, h1, h2, h3, h4]
theorem recE_6 {x : PRec} (h1 : sizesB x = true) (h2 : waitsB x = true) (h3 : idlesB x = true) (h4 : shapeB x = true) (h5 : matchF x.es x.ps = true) (h : lengthsB x.rows x.cols x.ys x.zs = false) : recE x = 1 := by simp [recE, h, h1, h2, h3, h4, h5]
theorem recE_7 {x : PRec} (h1 : sizesB x = true) (h2 : waitsB x = true) (h3 : idlesB x = true) (h4 : shapeB x = true) (h5 : matchF x.es x.ps = true) (h : lengthsB x.rows x.cols x.ys x.zs = true) : recE x = 0 := by simp [recE, h, h1, h2, h3, h4, h5]
theorem waitsB_bad {x : PRec} {k : Nat} {y : PWait} (hy : x.ws[k]? = some y) (h : ¬ (prevW x.ws k < y.number ∧ 0 ≤ y.since ∧ y.since ≤ x.tick)) : waitsB x = false :=
  allF_bad (List.getElem?_eq_some_iff.1 hy).1 (by rw [waitAt_eq hy]; exact decide_eq_false h)
theorem idlesB_bad {x : PRec} {k : Nat} {y : PIdle} (hy : x.ds[k]? = some y) (h : ¬ prevD x.ds k < y.number) : idlesB x = false :=
  allF_bad (List.getElem?_eq_some_iff.1 hy).1 (by rw [idleAt_eq hy]; exact decide_eq_false h)
end Go.Proofs.YtcaicgipibcicaaGreat

/- How a whole element of a list of structs is loaded. -/
namespace Go.Proofs.YtcaicgipibcicaaGreat
set_option maxRecDepth 100000
set_option linter.unusedVariables false
open Go.RowKit Go.Sort

section
variable {P : Program}
theorem run_loadVar_elem (w : World) (b off : Nat) (ty : TypeId) (cs : List Value) (d : TypeDesc) (hc : ∀ j u, cs[j]? = some u → w.cell? ⟨b, off + j, none⟩ = some u)
    (hu : P.underlying ty = some d) (hd : (match d with | .struct _ | .array _ _ => true | _ => false) = true) (hi : (P.info? ty).map (·.size) = some cs.length) :
    (loadVar ty ⟨b, off, none⟩).run P w = .ok (.agg cs.toArray) w := by
  have hl : (loadCells ⟨b, off, none⟩ cs.length).run P w = .ok cs.toArray w :=
    run_loadCells_list (P := P) w ⟨b, off, none⟩ cs (fun j v hv => by
      have hadd : (⟨b, off, none⟩ : Addr).add j = ⟨b, off + j, none⟩ := by unfold Addr.add; split <;> simp_all
      rw [hadd]
      exact hc j v hv)
  cases hq : P.info? ty with
  | none => simp [hq] at hi
  | some i =>
    have hs : i.size = cs.length := by simpa [hq] using hi
    have hagg : (isAgg ty).run P w = .ok true w := by
      unfold isAgg
      rw [Sem.run_bind, run_underlying hu w]
      cases d <;> simp_all
    simp [loadVar, Sem.run_bind, hagg, sizeOf, typeInfo, hq, hs, hl]
theorem wp_load_elem {o : Oper} {a : Act} {w : World} {K : Act → World → Prop} {Q : Exit → Act → World → Prop} (ty : TypeId) (x : Operand) (ho : o.op = .load ty x)
    (b off : Nat) (hx : a.eval x = .pointer (some ⟨b, off, none⟩)) (cs : List Value) (d : TypeDesc) (hc : ∀ j u, cs[j]? = some u → w.cell? ⟨b, off + j, none⟩ = some u)
    (hu : P.underlying ty = some d) (hd : (match d with | .struct _ | .array _ _ => true | _ => false) = true) (hi : (P.info? ty).map (·.size) = some cs.length)
    (h : K (a.put o.dst (.agg cs.toArray)) w) : o.wp P a w K Q := by
  unfold Oper.wp execOp
  simp only [ho, hx, Instr.loadAt, Instr.sureAddr, Sem.run_bind, Sem.run_pure, Result.andThen_ok, run_loadVar_elem w b off ty cs d hc hu hd hi]
  exact h
/-- AT THE OPERATION: an element is loaded. -/
theorem wpList_load_elem {ops : Array Oper} {rest : List Oper} {o : Oper} {a : Act} {w : World} {Q : Exit → Act → World → Prop} (hgd : o.guard = none) (ty : TypeId) (x : Operand) (ho : o.op = .load ty x)
    (b off : Nat) (hx : a.eval x = .pointer (some ⟨b, off, none⟩)) (cs : List Value) (vs : Array Value) (hvs : cs.toArray = vs) (d : TypeDesc) (hc : ∀ j u, cs[j]? = some u → w.cell? ⟨b, off + j, none⟩ = some u)
    (hu : P.underlying ty = some d) (hd : (match d with | .struct _ | .array _ _ => true | _ => false) = true) (hi : (P.info? ty).map (·.size) = some cs.length)
    (h : wpList P ops Q rest (a.put o.dst (.agg vs)) w) : wpList P ops Q (o :: rest) a w :=
  wpList_plain hgd fun _ hK => wp_load_elem ty x ho b off hx cs d hc hu hd hi (hK _ _ (by rw [hvs]; exact h))
/-- AT THE OPERATION: a whole struct is stored into the block that was made last. -/
theorem wpList_store_new {ops : Array Oper} {rest : List Oper} {o : Oper} {a : Act} {w : World} {Q : Exit → Act → World → Prop} (hgd : o.guard = none) (ty : TypeId) (p x : Operand) (ho : o.op = .store ty p x) (c c' : Array Value)
    (hp : a.eval p = .pointer (some ⟨w.heap.size, 0, none⟩)) (hx : a.eval x = .agg c') (cs : List Value) (hc : cs.toArray = c') (hi : (P.info? ty).map (·.size) = some c'.size) (hs : c.size = c'.size) (h1 : ∀ u ∈ cs, u.oneCell' = true)
    (h : wpList P ops Q rest (a.put o.dst undef) (w.alloc (.cells c' ty))) : wpList P ops Q (o :: rest) a (w.alloc (.cells c ty)) := by
  refine wpList_plain hgd fun K hK => ?_
  have h1' : c'.all (·.oneCell') = true := by subst hc; rw [List.all_toArray, List.all_eq_true]; exact h1
  unfold Oper.wp execOp
  simp only [ho, hp, hx, Sem.run_bind, run_storeAt_new w ty c c' hi hs h1', Result.andThen_ok, Sem.run_pure]
  exact hK _ _ h
end
theorem sz_of {P : Program} {e : TypeId} {z : Value} {s b : Nat} (h : (P.info? e).map (fun i => (i.zero, i.size, i.bytes)) = some (some z, s, b)) : (P.info? e).map (·.size) = some s := by
  obtain ⟨i, hi, _, hs, _⟩ := infos h
  simp [hi, hs]
theorem sz_wait : (Tryz.prog.info? 79).map (·.size) = some 18 := sz_of info_wait
theorem sz_idle : (Tryz.prog.info? 83).map (·.size) = some 14 := sz_of info_idle
theorem sz_edge : (Tryz.prog.info? 114).map (·.size) = some 3 := sz_of info_edge
theorem sz_pair : (Tryz.prog.info? 69).map (·.size) = some 2 := sz_of info_pair
def PReq.cells (r : PReq) : List Value := [.int .u8 r.i0, .int .u8 r.i1, .int .u8 r.i2, .int .u8 r.i3, .int .u8 r.i4, .int .u8 r.i5, .int .u8 r.i6, .int .u8 r.i7, .int .i16 r.fx, .int .i16 r.fy, .int .i16 r.tx, .int .i16 r.ty, .int .u8 r.seats, .int .u8 r.classes, .int .i64 r.base, .int .i64 r.ttl]
def PDrv.cells (d : PDrv) : List Value := [.int .u8 d.i0, .int .u8 d.i1, .int .u8 d.i2, .int .u8 d.i3, .int .u8 d.i4, .int .u8 d.i5, .int .u8 d.i6, .int .u8 d.i7, .int .i16 d.ax, .int .i16 d.ay, .int .u8 d.seats, .int .u8 d.cls, .int .i64 d.radius]
def PConf.cells (c : PConf) : List Value := [.int .i64 c.q, .int .i64 c.d, .int .i64 c.w, .int .i64 c.ttl, .int .i64 c.b]
theorem PReq.cells_one (x : PReq) : ∀ u ∈ x.cells, u.oneCell' = true := by
  intro u hu
  simp only [PReq.cells, List.mem_cons, List.not_mem_nil, or_false] at hu
  rcases hu with rfl | rfl | rfl | rfl | rfl | rfl | rfl | rfl | rfl | rfl | rfl | rfl | rfl | rfl | rfl | rfl <;> rfl
theorem PDrv.cells_one (x : PDrv) : ∀ u ∈ x.cells, u.oneCell' = true := by
  intro u hu
  simp only [PDrv.cells, List.mem_cons, List.not_mem_nil, or_false] at hu
  rcases hu with rfl | rfl | rfl | rfl | rfl | rfl | rfl | rfl | rfl | rfl | rfl | rfl | rfl <;> rfl
theorem sz_req : (Tryz.prog.info? 77).map (·.size) = some 16 := by kernel_rfl
theorem sz_drv : (Tryz.prog.info? 81).map (·.size) = some 13 := by kernel_rfl
theorem sz_conf : (Tryz.prog.info? 23).map (·.size) = some 5 := by kernel_rfl
theorem sz_id : (Tryz.prog.info? 72).map (·.size) = some 8 := by kernel_rfl
/-- The cells at the head of a block that is known whole. -/
theorem head_cells {w : World} {H : Nat} {cs : List Value} {vs : Array Value} {t : TypeId} (h : w.heap[H]? = some (.cells vs t (0, 0))) (k : Nat) (he : cs = vs.toList.take k) : ∀ j u, cs[j]? = some u → w.cell? ⟨H, 0 + j, none⟩ = some u := by
  intro j u hu
  rw [Nat.zero_add, cell_of_row w H j _ _ (0, 0) h]
  subst he
  rw [List.getElem?_take] at hu
  split at hu
  · simpa using hu
  · cases hu
theorem wait_head {w : World} {H : Nat} {x : PWait} {t : TypeId} (h : w.heap[H]? = some (.cells #[.int .u8 x.r.i0, .int .u8 x.r.i1, .int .u8 x.r.i2, .int .u8 x.r.i3, .int .u8 x.r.i4, .int .u8 x.r.i5, .int .u8 x.r.i6, .int .u8 x.r.i7, .int .i16 x.r.fx, .int .i16 x.r.fy, .int .i16 x.r.tx, .int .i16 x.r.ty, .int .u8 x.r.seats, .int .u8 x.r.classes, .int .i64 x.r.base, .int .i64 x.r.ttl, .int .i64 x.since, .int .i64 x.number] t (0, 0))) : ∀ j u, x.r.cells[j]? = some u → w.cell? ⟨H, 0 + j, none⟩ = some u := head_cells h 16 rfl
theorem idle_head {w : World} {H : Nat} {x : PIdle} {t : TypeId} (h : w.heap[H]? = some (.cells #[.int .u8 x.d.i0, .int .u8 x.d.i1, .int .u8 x.d.i2, .int .u8 x.d.i3, .int .u8 x.d.i4, .int .u8 x.d.i5, .int .u8 x.d.i6, .int .u8 x.d.i7, .int .i16 x.d.ax, .int .i16 x.d.ay, .int .u8 x.d.seats, .int .u8 x.d.cls, .int .i64 x.d.radius, .int .i64 x.number] t (0, 0))) : ∀ j u, x.d.cells[j]? = some u → w.cell? ⟨H, 0 + j, none⟩ = some u := head_cells h 13 rfl
theorem wait_whole {w : World} {H : Nat} {x : PWait} {t : TypeId} (h : w.heap[H]? = some (.cells #[.int .u8 x.r.i0, .int .u8 x.r.i1, .int .u8 x.r.i2, .int .u8 x.r.i3, .int .u8 x.r.i4, .int .u8 x.r.i5, .int .u8 x.r.i6, .int .u8 x.r.i7, .int .i16 x.r.fx, .int .i16 x.r.fy, .int .i16 x.r.tx, .int .i16 x.r.ty, .int .u8 x.r.seats, .int .u8 x.r.classes, .int .i64 x.r.base, .int .i64 x.r.ttl, .int .i64 x.since, .int .i64 x.number] t (0, 0))) : ∀ j u, x.cells[j]? = some u → w.cell? ⟨H, 0 + j, none⟩ = some u := head_cells h 18 rfl
theorem conf_whole {w : World} {H : Nat} {x : PConf} {t : TypeId} (h : w.heap[H]? = some (.cells #[.int .i64 x.q, .int .i64 x.d, .int .i64 x.w, .int .i64 x.ttl, .int .i64 x.b] t (0, 0))) : ∀ j u, x.cells[j]? = some u → w.cell? ⟨H, 0 + j, none⟩ = some u := head_cells h 5 rfl
theorem wait_cells_at {w : World} {b o : Nat} {l : List PWait} (hr : RdC w (some ⟨b, o, none⟩) (cellsOf PWait.cells l)) {i : Nat} {x : PWait} (hx : l[i]? = some x) : ∀ j u, x.cells[j]? = some u → w.cell? ⟨b, o + i * 18 + j, none⟩ = some u :=
  fun j u hu => rdc_cell PWait.cells_length hr hx j u hu
theorem idle_cells_at {w : World} {b o : Nat} {l : List PIdle} (hr : RdC w (some ⟨b, o, none⟩) (cellsOf PIdle.cells l)) {i : Nat} {x : PIdle} (hx : l[i]? = some x) : ∀ j u, x.cells[j]? = some u → w.cell? ⟨b, o + i * 14 + j, none⟩ = some u :=
  fun j u hu => rdc_cell PIdle.cells_length hr hx j u hu
end Go.Proofs.YtcaicgipibcicaaGreat

/- Appends in regions that draw; rows that are written; lists that are built beside others. -/
namespace Go.Proofs.YtcaicgipibcicaaGreat
set_option maxRecDepth 100000
set_option linter.unusedVariables false
open Go.RowKit Go.Sort

theorem Row.set {w : World} {g cap size : Nat} {xs : List Value} (h : Row w g cap size xs) (i : Nat) (v : Value) (hi : i < cap * size) : Row (w.setCell ⟨g, i, none⟩ v) g cap size (xs.set i v) := by
  have hK := Keep.setCells w g i [v]
  have hsc : w.setCells g i [v] = w.setCell ⟨g, i, none⟩ v := rfl
  rw [← hsc]
  refine ⟨Nat.lt_of_lt_of_le h.lt hK.size, fun j u hu => ?_, fun j hj => World.isSome_setCells g [v] _ w _ (h.there j hj), fun j hj => by rw [World.frozen?_setCells]; exact h.free j hj⟩
  by_cases hj : j = i
  · subst hj
    have h1 := World.cell?_setCells_in g [v] j w (fun k hk => by simp at hk; subst hk; exact h.there _ (by simpa using hi)) 0 (by simp)
    rw [List.getElem?_set] at hu
    simp only [if_true] at hu
    split at hu
    · cases hu; simpa using h1
    · cases hu
  · rw [World.cell?_setCells_out g [v] _ w ⟨g, j, none⟩ (fun _ _ => by simp; omega)]
    rw [List.getElem?_set_ne (fun e => hj e.symm)] at hu
    exact h.cell j u hu

/-- Append onto an owned row, as one step of a region that draws. -/
theorem step_append_own {P : Program} {ops : Array Oper} {o : Oper} {a : Act} {w : World} {K : Act → World → Prop} {Q : Exit → Act → World → Prop} {E : Prop}
    (hg : o.guard = none) (s x : Operand) (t tx : TypeId) (hop : o.op = Op.call { callee := Callee.builtin Builtin.append, args := #[s, x], argTypes := #[t, tx] })
    (e : TypeId) (i : TypeInfo) (z : Value) (size bytes : Nat) (ht : P.underlying t = some (.slice e)) (hi : P.info? e = some i) (hz : i.zero = some z) (hsize : i.size = size) (hby : i.bytes = bytes) (hzs : z.cells.size = size)
    (v : Value) (n : Nat) (xs : List Value) (hs : a.eval s = v) (hown : Own w size v n xs) (xv : Value) (m : Nat) (news : List Value) (hx : a.eval x = xv) (hsrc : Src P size tx xv m news w)
    (h63 : n + m ≤ maxLen) (hbytes : (n + m) * bytes ≤ 140737488355328)
    (hK : ∀ ao cap w', Own w' size (.slice ao (n + m) cap) (n + m) (xs ++ news) → Keep (fun k => v.ownBlock = some k) w w' → ((Value.slice ao (n + m) cap).ownBlock = v.ownBlock ∨ ∃ g, (Value.slice ao (n + m) cap).ownBlock = some g ∧ w.heap.size ≤ g) → K (a.put o.dst (.slice ao (n + m) cap)) w') :
    if Region.wanted o (yielded ops a.tmps) = true then Oper.wp P o a w K Q else E := by
  have hw : Region.wanted o (yielded ops a.tmps) = true := by simp [Region.wanted, hg]
  rw [if_pos hw]
  obtain ⟨v', w', hr, h2, h3, h4, h5⟩ := run_append_any (P := P) w t tx o.type e i z size bytes ht hi hz hsize hby hzs v n xs hown xv m news hsrc h63 hbytes
  obtain ⟨ao, cap, hv⟩ : ∃ ao cap, v' = .slice ao (n + m) cap := by
    rcases h2.2 with ⟨h, h0⟩ | ⟨g, c, h, _⟩
    · exact ⟨none, 0, by rw [h, h0]⟩
    · exact ⟨_, _, h⟩
  subst hv
  unfold Oper.wp
  simp [execOp, hop, resolve, invoke, builtin, hs, hx, hr, Result.andThen]
  exact hK _ _ _ h2 h3 h4

/-- A list of edges that is built in a graph's box at H, behind a world w3. -/
structure EdRel (w3 : World) (n m : Nat) (l : List PEdge) (ev : Value) (H : Nat) (wr : World) : Prop where
  own : Own wr 3 ev l.length (cellsOf PEdge.cells l)
  new : ∀ g, ev.ownBlock = some g → w3.heap.size ≤ g
  keep : Keep (fun k => k = H) w3 wr
  box : wr.heap[H]? = some (.cells #[.int .i64 n, .int .i64 m, ev] 28 (0, 0))
  lt : H < w3.heap.size
theorem EdRel.begin {w3 : World} {n m H : Nat} (h : w3.heap[H]? = some (.cells #[.int .i64 n, .int .i64 m, .slice none 0 0] 28 (0, 0))) : EdRel w3 n m [] (.slice none 0 0) H w3 :=
  ⟨Own.nil _ _, fun g hg => by simp [Value.ownBlock] at hg, Keep.refl _ _, h, lt_of_block h⟩
theorem EdRel.past {w3 : World} {n m : Nat} {l : List PEdge} {ev : Value} {H : Nat} {wr w' : World} (h : EdRel w3 n m l ev H wr) (k : Keep (fun _ => False) wr w') : EdRel w3 n m l ev H w' :=
  ⟨h.own.keep k (fun _ _ => id), h.new, h.keep.trans k (fun _ _ h => h) (fun _ _ h => h.elim), k.old h.box id, h.lt⟩
/-- One more, appended, the box written. -/
theorem EdRel.next {w3 : World} {n m : Nat} {l : List PEdge} {ev : Value} {H : Nat} {wr WY w' : World} (h : EdRel w3 n m l ev H wr) (hy : Keep (fun _ => False) wr WY) {x : PEdge} {ao : Option Addr} {cap : Nat}
    (hown : Own w' 3 (.slice ao (l.length + 1) cap) (l.length + 1) (cellsOf PEdge.cells l ++ PEdge.cells x)) (hk : Keep (fun q => ev.ownBlock = some q) WY w')
    (hb : (Value.slice ao (l.length + 1) cap).ownBlock = ev.ownBlock ∨ ∃ g, (Value.slice ao (l.length + 1) cap).ownBlock = some g ∧ WY.heap.size ≤ g) :
    EdRel w3 n m (l ++ [x]) (.slice ao (l.length + 1) cap) H (w'.setCell ⟨H, 2, none⟩ (.slice ao (l.length + 1) cap)) := by
  have hs3 : w3.heap.size ≤ WY.heap.size := Nat.le_trans h.keep.size hy.size
  have hnew : ∀ g, (Value.slice ao (l.length + 1) cap).ownBlock = some g → w3.heap.size ≤ g := fun g hg => by
    rcases hb with hb | ⟨g', hb, hle⟩
    · exact h.new g (hb.symm.trans hg)
    · rw [hg] at hb; cases hb; exact Nat.le_trans hs3 hle
  have hlt := h.lt
  have hbox' : w'.heap[H]? = some (.cells #[.int .i64 n, .int .i64 m, ev] 28 (0, 0)) := hk.old (hy.old h.box id) (fun he => by have := h.new H he; omega)
  refine ⟨?_, hnew, ?_, ?_, h.lt⟩
  · rw [cellsOf_snoc, List.length_append]
    exact hown.keep (Keep.setCell w' H 2 _) (fun g hg he => by have := hnew g hg; omega)
  · refine ((h.keep.trans hy (fun _ _ h => h) (fun _ _ h => h.elim)).trans hk (Z := fun k => k = H) (fun _ _ h => h) (fun k hk2 he => ?_)).trans (Keep.setCell w' H 2 _) (fun _ _ h => h) (fun _ _ h => h)
    have := h.new k he
    omega
  · exact row_set hbox' 2 _
theorem EdRel.grown {w w3 : World} {n m : Nat} {l : List PEdge} {ev : Value} {H : Nat} {wr : World} (h : EdRel w3 n m l ev H wr) (hb : Below w.heap.size w w3) (hH : w.heap.size ≤ H) : Grown w PEdge.cells 3 l ev wr :=
  ⟨h.own, hb.trans (h.keep.below hb.size (fun i hi he => by omega)), fun g hg => by have := h.new g hg; have := hb.size; omega⟩
end Go.Proofs.YtcaicgipibcicaaGreat

/- The codec's Writer in memory: what is put stands at the end. -/
namespace Go.Proofs.YtcaicgipibcicaaGreat
set_option maxRecDepth 100000
set_option linter.unusedVariables false
set_option linter.unusedSimpArgs false
open Go.RowKit Go.Sort

def bcell (n : Int) : List Value := [.int .u8 n]
theorem bcell_length (n : Int) : (bcell n).length = 1 := rfl
theorem bcell_one (n : Int) : ∀ u ∈ bcell n, u.oneCell' = true := by
  intro u hu
  simp only [bcell, List.mem_cons, List.not_mem_nil, or_false] at hu
  subst hu; rfl
theorem bcells_len (l : List Int) : (cellsOf bcell l).length = l.length := by rw [cellsOf_length _ 1 bcell_length]; omega
/-- A writer, and the bytes that were put. -/
structure W1 (w : World) (WB : Nat) (sv : Value) (l : List Int) : Prop where
  box : w.heap[WB]? = some (.cells #[sv, .bool true] 193 (0, 0))
  own : Own w 1 sv l.length (cellsOf bcell l)
  ne : sv.ownBlock ≠ some WB
/-- It was written from w to w'. -/
def Wrote (w : World) (WB : Nat) (sv : Value) (l : List Int) (w' : World) : Prop :=
  ∃ sv', W1 w' WB sv' l ∧ Keep (fun k => k = WB ∨ sv.ownBlock = some k) w w' ∧ ∀ g, sv'.ownBlock = some g → sv.ownBlock = some g ∨ w.heap.size ≤ g
theorem W1.keep {w w' : World} {WB : Nat} {sv : Value} {l : List Int} (h : W1 w WB sv l) {X : Nat → Prop} (hk : Keep X w w') (h1 : ¬ X WB) (h2 : ∀ g, sv.ownBlock = some g → ¬ X g) : W1 w' WB sv l :=
  ⟨hk.old h.box h1, h.own.keep hk h2, h.ne⟩
theorem W1.alloc {w : World} {WB : Nat} {sv : Value} {l : List Int} (h : W1 w WB sv l) (o : Obj) : W1 (w.alloc o) WB sv l := h.keep (Keep.alloc (fun _ => False) w o) id (fun _ _ => id)
theorem W1.drewN {w : World} {WB : Nat} {sv : Value} {l : List Int} (h : W1 w WB sv l) (n : Nat) : W1 (w.drewN n) WB sv l := h.keep (X := fun _ => False) (w' := w.drewN n) ⟨rfl, rfl, rfl, Nat.le_refl _, fun _ _ _ => rfl⟩ id (fun _ _ => id)
theorem W1.cells {w : World} {WB : Nat} {sv : Value} {l : List Int} (h : W1 w WB sv l) : w.cell? ⟨WB, 0, none⟩ = some sv ∧ w.cell? ⟨WB, 1, none⟩ = some (.bool true) := by
  refine ⟨?_, ?_⟩ <;> rw [cell_of_row w WB _ _ _ (0, 0) h.box] <;> rfl
/-- Something that happened ahead, and left the writer alone. -/
theorem Wrote.after {w wa w' : World} {WB : Nat} {sv : Value} {l : List Int} (hk : Keep (fun _ => False) w wa) (h : Wrote wa WB sv l w') : Wrote w WB sv l w' := by
  obtain ⟨sv', h1, h2, h3⟩ := h
  exact ⟨sv', h1, hk.trans h2 (fun _ _ h => h.elim) (fun _ _ h => h), fun g hg => (h3 g hg).imp id (fun h => Nat.le_trans hk.size h)⟩
theorem Wrote.then {w w1 w2 : World} {WB : Nat} {sv : Value} {l1 l2 : List Int} (h : Wrote w WB sv l1 w1) (h2 : ∀ sv', W1 w1 WB sv' l1 → Wrote w1 WB sv' l2 w2) : Wrote w WB sv l2 w2 := by
  obtain ⟨sv1, a1, a2, a3⟩ := h
  obtain ⟨sv2, b1, b2, b3⟩ := h2 sv1 a1
  refine ⟨sv2, b1, a2.trans b2 (fun _ _ h => h) (fun k hk h => ?_), fun g hg => ?_⟩
  · rcases h with h | h
    · exact .inl h
    · rcases a3 k h with h | h
      · exact .inr h
      · omega
  · rcases b3 g hg with h | h
    · exact a3 g h
    · exact .inr (Nat.le_trans a2.size h)
theorem Wrote.step {w w1 w2 : World} {WB : Nat} {sv sv1 : Value} {l2 : List Int} (a2 : Keep (fun k => k = WB ∨ sv.ownBlock = some k) w w1) (a3 : ∀ g, sv1.ownBlock = some g → sv.ownBlock = some g ∨ w.heap.size ≤ g) (h : Wrote w1 WB sv1 l2 w2) : Wrote w WB sv l2 w2 := by
  obtain ⟨sv2, b1, b2, b3⟩ := h
  refine ⟨sv2, b1, a2.trans b2 (fun _ _ h => h) (fun k hk h => ?_), fun g hg => ?_⟩
  · rcases h with h | h
    · exact .inl h
    · rcases a3 k h with h | h
      · exact .inr h
      · omega
  · rcases b3 g hg with h | h
    · exact a3 g h
    · exact .inr (Nat.le_trans a2.size h)
theorem Wrote.nil {w : World} {WB : Nat} {sv : Value} {l : List Int} (h : W1 w WB sv l) : Wrote w WB sv l w := ⟨sv, h, Keep.refl _ _, fun g hg => .inl hg⟩

set_option maxHeartbeats 2000000 in
/-- put. -/
theorem put_any (w : World) (WB : Nat) (sv : Value) (l m : List Int) (h : W1 w WB sv l) (b o c n : Nat) (hn : m.length = n) (h0 : 0 < n) (hr : ∀ j u, (cellsOf bcell m)[j]? = some u → w.cell? ⟨b, o + j, none⟩ = some u) (hl : l.length + n ≤ 1073741824) :
    Calls Tryz.prog 160 #[.pointer (some ⟨WB, 0, none⟩), .slice (some ⟨b, o, none⟩) n c] w fun e w' => e = .returned (.tuple #[]) ∧ Wrote w WB sv (l ++ m) w' := by
  have H := Lib.hid h
  have HM := Lib.hid hr
  have HN := Lib.hid hn
  obtain ⟨s0, s1⟩ := h.cells
  clear h hr hn
  obtain ⟨i5, hi, hz0, hz1, hz2⟩ := infos (show (Tryz.prog.info? 5).map (fun i => (i.zero, i.size, i.bytes)) = some (some (.int .u8 0), 1, 1) by kernel_rfl)
  go_enter Tryz.func160, Tryz.ntmps160
  go_wp2_with (at_builtin; refine wpList_append_pos rfl (.tmp 16) (.tmp 17) 59 59 rfl 5 i5 (.int .u8 0) 1 1 Tryz.underlying59 hi hz0 hz1 hz2 rfl sv l.length (cellsOf bcell l) rfl H.out.own (.slice (some ⟨b, o, none⟩) n c) n (cellsOf bcell m) rfl (Src.ofSlice (P := Tryz.prog) w Tryz.underlying59 _ _ c (cellsOf bcell m) (by rw [bcells_len, HN.out]; omega) (fun j u hu => by have hadd : (⟨b, o, none⟩ : Addr).add j = ⟨b, o + j, none⟩ := by { unfold Addr.add; split <;> simp_all }; rw [hadd]; exact HM.out j u hu) (cellsOf_one bcell bcell_one m)) (.inl (by omega)) (by unfold maxLen; omega) (by omega) ?_)
  intro g cap w1 hown hk hb
  have HO := Lib.hid hown
  have HK := Lib.hid hk
  have HB := Lib.hid hb
  have hbox := hk.old H.out.box (fun he => H.out.ne he)
  have HBX := Lib.hid hbox
  have q0 : w1.cell? ⟨WB, 0, none⟩ = some sv := by rw [cell_of_row w1 WB _ _ _ (0, 0) hbox]; rfl
  have qf := frozen_of_row w1 WB 0 _ _ hbox
  clear hown hk hb hbox
  have HE := Lib.hid (show Wrote w WB sv (l ++ m) (w1.setCell ⟨WB, 0, none⟩ (.slice (some ⟨g, 0, none⟩) (l.length + n) cap)) from by
    have hWB : WB < w.heap.size := lt_of_block H.out.box
    have hne : g ≠ WB := by
      intro he
      subst he
      rcases HB.out with h | h
      · exact H.out.ne h
      · omega
    refine ⟨.slice (some ⟨g, 0, none⟩) (l.length + n) cap, ⟨row_set HBX.out 0 _, ?_, ?_⟩, ?_, ?_⟩
    · have := HO.out.keep (Keep.setCell w1 WB 0 (.slice (some ⟨g, 0, none⟩) (l.length + n) cap)) (fun g' hg' he => by simp [Value.ownBlock] at hg'; omega)
      rw [List.length_append, HN.out]
      simpa [cellsOf] using this
    · simp [Value.ownBlock]; exact hne
    · exact HK.out.trans (Keep.setCell w1 WB 0 _) (fun _ _ h => .inr h) (fun _ _ h => .inl h)
    · intro g' hg'
      simp [Value.ownBlock] at hg'
      subst hg'
      exact HB.out)
  go_wp2_with fail
  exact bodyPost_end (v := .tuple #[]) (by simp [results, Tryz.results160, go_sem]) rfl ⟨rfl, HE.out⟩
end Go.Proofs.YtcaicgipibcicaaGreat
