/- Equality of the api's structs, as one Bool. Printed by wip/geneqs2.py. -/
import Derived.Test.YtcaicgipibcicaaGreatQMem
import Derived.Test.YtcaicgipibcicaaGreatProg
import Derived.ChangeKeysEq
import Derived.Laws.Cover3
import Derived.Lib.Hide
namespace Go.Proofs.YtcaicgipibcicaaGreat
set_option maxRecDepth 100000
set_option linter.unusedVariables false
set_option linter.unusedSimpArgs false
open Go.RowKit

section
variable {P : Program}
theorem eqi_cons {d : Nat} {e n : Nat} {xs ys : Array Value} {i : Nat} {is : List Nat} {a b : Value} {r s : Bool} {w : World}
    (ha : (part e xs (i * n)).run P w = .ok a w) (hb : (part e ys (i * n)).run P w = .ok b w) (he : (Op.equalIn d e a b).run P w = .ok r w) (hr : (Op.eqItems d e n xs ys is).run P w = .ok s w) :
    (Op.eqItems d e n xs ys (i :: is)).run P w = .ok (r && s) w := by
  rw [Op.eqItems]
  simp only [Sem.run_bind, ha, hb, he, Result.andThen_ok]
  cases r
  · simp
  · simpa using hr
theorem eqi_nil {d : Nat} {e n : Nat} {xs ys : Array Value} {w : World} : (Op.eqItems d e n xs ys []).run P w = .ok true w := by simp [Op.eqItems]
end
section
variable {P : Program} {d : Nat} {xs ys : Array Value} {f : Field} {fs : List Field} {a b : Value} {r s : Bool} {w : World}
theorem ef_last (hn : (f.name == "_") = false) (ha : (part f.type xs f.offset).run P w = .ok a w) (hb : (part f.type ys f.offset).run P w = .ok b w) (he : (Op.equalIn d f.type a b).run P w = .ok r w) : (Op.eqFields d xs ys [f]).run P w = .ok r w := by
  have hn' : f.name ≠ "_" := by simpa using hn
  simp only [Op.eqFields, if_pos hn', Sem.run_bind, ha, hb, he, Result.andThen_ok]
  cases r <;> simp
theorem ef_cons (hn : (f.name == "_") = false) (ha : (part f.type xs f.offset).run P w = .ok a w) (hb : (part f.type ys f.offset).run P w = .ok b w) (he : (Op.equalIn d f.type a b).run P w = .ok r w) (hr : (Op.eqFields d xs ys fs).run P w = .ok s w) : (Op.eqFields d xs ys (f :: fs)).run P w = .ok (r && s) w := by
  have hn' : f.name ≠ "_" := by simpa using hn
  rw [Op.eqFields]
  simp only [if_pos hn', Sem.run_bind, ha, hb, he, Result.andThen_ok]
  cases r
  · simp
  · simpa using hr
theorem ef_of {t : TypeId} {fs : Array Field} (hu : P.underlying t = some (.struct fs)) (hp : P.stoodInHeld t = false) (h : (Op.eqFields d xs ys fs.toList).run P w = .ok r w) : (Op.equalIn (d + 1) t (.agg xs) (.agg ys)).run P w = .ok r w := by
  have hf : P.fieldsOf t = fs := by simp [Program.fieldsOf, hu]
  rw [run_equalIn_struct (P := P) w d t xs ys (by rw [hf]; exact hu) hp, hf]
  exact h
end
def bq_id (x0 y0 x1 y1 x2 y2 x3 y3 x4 y4 x5 y5 x6 y6 x7 y7 : Int) : Bool := (x0 == y0 && (x1 == y1 && (x2 == y2 && (x3 == y3 && (x4 == y4 && (x5 == y5 && (x6 == y6 && (x7 == y7 && true))))))))
theorem eq_id (d : Nat) (w : World) (x0 y0 x1 y1 x2 y2 x3 y3 x4 y4 x5 y5 x6 y6 x7 y7 : Int) : (Op.equalIn (d + 2) 72 (.agg #[.int .u8 x0, .int .u8 x1, .int .u8 x2, .int .u8 x3, .int .u8 x4, .int .u8 x5, .int .u8 x6, .int .u8 x7]) (.agg #[.int .u8 y0, .int .u8 y1, .int .u8 y2, .int .u8 y3, .int .u8 y4, .int .u8 y5, .int .u8 y6, .int .u8 y7])).run Tryz.prog w = .ok ((x0 == y0 && (x1 == y1 && (x2 == y2 && (x3 == y3 && (x4 == y4 && (x5 == y5 && (x6 == y6 && (x7 == y7 && true))))))))) w := by
  obtain ⟨i, hi, _⟩ := info_parts (show (Tryz.prog.info? 5).map (fun i => (i.zero, i.size, i.bytes)) = some (some (.int .u8 0), 1, 1) by kernel_rfl)
  have hc : Tryz.prog.cellsOf 5 = 1 := by kernel_rfl
  rw [run_equalIn_array w (d + 1) _ _ Tryz.underlying72 hi, hc]
  simp only [List.range_succ, List.range_zero, List.nil_append, List.cons_append]
  refine eqi_cons (by go_simp; rfl) (by go_simp; rfl) (by go_simp) ?_
  refine eqi_cons (by go_simp; rfl) (by go_simp; rfl) (by go_simp) ?_
  refine eqi_cons (by go_simp; rfl) (by go_simp; rfl) (by go_simp) ?_
  refine eqi_cons (by go_simp; rfl) (by go_simp; rfl) (by go_simp) ?_
  refine eqi_cons (by go_simp; rfl) (by go_simp; rfl) (by go_simp) ?_
  refine eqi_cons (by go_simp; rfl) (by go_simp; rfl) (by go_simp) ?_
  refine eqi_cons (by go_simp; rfl) (by go_simp; rfl) (by go_simp) ?_
  exact eqi_cons (by go_simp; rfl) (by go_simp; rfl) (by go_simp) eqi_nil
theorem eq_id' (x0 y0 x1 y1 x2 y2 x3 y3 x4 y4 x5 y5 x6 y6 x7 y7 : Int) (w : World) : (Op.equalIn 10000 72 (.agg #[.int .u8 x0, .int .u8 x1, .int .u8 x2, .int .u8 x3, .int .u8 x4, .int .u8 x5, .int .u8 x6, .int .u8 x7]) (.agg #[.int .u8 y0, .int .u8 y1, .int .u8 y2, .int .u8 y3, .int .u8 y4, .int .u8 y5, .int .u8 y6, .int .u8 y7])).run Tryz.prog w = .ok (bq_id x0 y0 x1 y1 x2 y2 x3 y3 x4 y4 x5 y5 x6 y6 x7 y7) w := eq_id 9998 w x0 y0 x1 y1 x2 y2 x3 y3 x4 y4 x5 y5 x6 y6 x7 y7
theorem bq_id_iff (x0 y0 x1 y1 x2 y2 x3 y3 x4 y4 x5 y5 x6 y6 x7 y7 : Int) : bq_id x0 y0 x1 y1 x2 y2 x3 y3 x4 y4 x5 y5 x6 y6 x7 y7 = true ↔ x0 = y0 ∧ x1 = y1 ∧ x2 = y2 ∧ x3 = y3 ∧ x4 = y4 ∧ x5 = y5 ∧ x6 = y6 ∧ x7 = y7 := by simp [bq_id]
theorem bq_id_refl (x0 x1 x2 x3 x4 x5 x6 x7 : Int) : bq_id x0 x0 x1 x1 x2 x2 x3 x3 x4 x4 x5 x5 x6 x6 x7 x7 = true := by simp [bq_id]
def bq_point (x0 y0 x1 y1 : Int) : Bool := (x0 == y0 && x1 == y1)
theorem eq_point (d : Nat) (w : World) (x0 y0 x1 y1 : Int) : (Op.equalIn (d + 2) 75 (.agg #[.int .i16 x0, .int .i16 x1]) (.agg #[.int .i16 y0, .int .i16 y1])).run Tryz.prog w = .ok ((x0 == y0 && x1 == y1)) w := by
  refine ef_of Tryz.underlying75 (by kernel_rfl) ?_
  refine ef_cons (by rfl) (by go_simp; rfl) (by go_simp; rfl) (by go_simp) ?_
  exact ef_last (by rfl) (by go_simp; rfl) (by go_simp; rfl) (by go_simp)
theorem eq_point' (x0 y0 x1 y1 : Int) (w : World) : (Op.equalIn 10000 75 (.agg #[.int .i16 x0, .int .i16 x1]) (.agg #[.int .i16 y0, .int .i16 y1])).run Tryz.prog w = .ok (bq_point x0 y0 x1 y1) w := eq_point 9998 w x0 y0 x1 y1
theorem bq_point_iff (x0 y0 x1 y1 : Int) : bq_point x0 y0 x1 y1 = true ↔ x0 = y0 ∧ x1 = y1 := by simp [bq_point]
theorem bq_point_refl (x0 x1 : Int) : bq_point x0 x0 x1 x1 = true := by simp [bq_point]
def bq_req (x0 y0 x1 y1 x2 y2 x3 y3 x4 y4 x5 y5 x6 y6 x7 y7 x8 y8 x9 y9 x10 y10 x11 y11 x12 y12 x13 y13 x14 y14 x15 y15 : Int) : Bool := (((x0 == y0 && (x1 == y1 && (x2 == y2 && (x3 == y3 && (x4 == y4 && (x5 == y5 && (x6 == y6 && (x7 == y7 && true))))))))) && (((x8 == y8 && x9 == y9)) && (((x10 == y10 && x11 == y11)) && (x12 == y12 && (x13 == y13 && (x14 == y14 && x15 == y15))))))
theorem eq_req (d : Nat) (w : World) (x0 y0 x1 y1 x2 y2 x3 y3 x4 y4 x5 y5 x6 y6 x7 y7 x8 y8 x9 y9 x10 y10 x11 y11 x12 y12 x13 y13 x14 y14 x15 y15 : Int) : (Op.equalIn (d + 3) 77 (.agg #[.int .u8 x0, .int .u8 x1, .int .u8 x2, .int .u8 x3, .int .u8 x4, .int .u8 x5, .int .u8 x6, .int .u8 x7, .int .i16 x8, .int .i16 x9, .int .i16 x10, .int .i16 x11, .int .u8 x12, .int .u8 x13, .int .i64 x14, .int .i64 x15]) (.agg #[.int .u8 y0, .int .u8 y1, .int .u8 y2, .int .u8 y3, .int .u8 y4, .int .u8 y5, .int .u8 y6, .int .u8 y7, .int .i16 y8, .int .i16 y9, .int .i16 y10, .int .i16 y11, .int .u8 y12, .int .u8 y13, .int .i64 y14, .int .i64 y15])).run Tryz.prog w = .ok ((((x0 == y0 && (x1 == y1 && (x2 == y2 && (x3 == y3 && (x4 == y4 && (x5 == y5 && (x6 == y6 && (x7 == y7 && true))))))))) && (((x8 == y8 && x9 == y9)) && (((x10 == y10 && x11 == y11)) && (x12 == y12 && (x13 == y13 && (x14 == y14 && x15 == y15))))))) w := by
  refine ef_of Tryz.underlying77 (by kernel_rfl) ?_
  refine ef_cons (by rfl) (by go_simp) (by go_simp) (eq_id (d + 0) w _ _ _ _ _ _ _ _ _ _ _ _ _ _ _ _ ) ?_
  refine ef_cons (by rfl) (by go_simp) (by go_simp) (eq_point (d + 0) w _ _ _ _ ) ?_
  refine ef_cons (by rfl) (by go_simp) (by go_simp) (eq_point (d + 0) w _ _ _ _ ) ?_
  refine ef_cons (by rfl) (by go_simp; rfl) (by go_simp; rfl) (by go_simp) ?_
  refine ef_cons (by rfl) (by go_simp; rfl) (by go_simp; rfl) (by go_simp) ?_
  refine ef_cons (by rfl) (by go_simp; rfl) (by go_simp; rfl) (by go_simp) ?_
  exact ef_last (by rfl) (by go_simp; rfl) (by go_simp; rfl) (by go_simp)
theorem eq_req' (x0 y0 x1 y1 x2 y2 x3 y3 x4 y4 x5 y5 x6 y6 x7 y7 x8 y8 x9 y9 x10 y10 x11 y11 x12 y12 x13 y13 x14 y14 x15 y15 : Int) (w : World) : (Op.equalIn 10000 77 (.agg #[.int .u8 x0, .int .u8 x1, .int .u8 x2, .int .u8 x3, .int .u8 x4, .int .u8 x5, .int .u8 x6, .int .u8 x7, .int .i16 x8, .int .i16 x9, .int .i16 x10, .int .i16 x11, .int .u8 x12, .int .u8 x13, .int .i64 x14, .int .i64 x15]) (.agg #[.int .u8 y0, .int .u8 y1, .int .u8 y2, .int .u8 y3, .int .u8 y4, .int .u8 y5, .int .u8 y6, .int .u8 y7, .int .i16 y8, .int .i16 y9, .int .i16 y10, .int .i16 y11, .int .u8 y12, .int .u8 y13, .int .i64 y14, .int .i64 y15])).run Tryz.prog w = .ok (bq_req x0 y0 x1 y1 x2 y2 x3 y3 x4 y4 x5 y5 x6 y6 x7 y7 x8 y8 x9 y9 x10 y10 x11 y11 x12 y12 x13 y13 x14 y14 x15 y15) w := eq_req 9997 w x0 y0 x1 y1 x2 y2 x3 y3 x4 y4 x5 y5 x6 y6 x7 y7 x8 y8 x9 y9 x10 y10 x11 y11 x12 y12 x13 y13 x14 y14 x15 y15
theorem bq_req_iff (x0 y0 x1 y1 x2 y2 x3 y3 x4 y4 x5 y5 x6 y6 x7 y7 x8 y8 x9 y9 x10 y10 x11 y11 x12 y12 x13 y13 x14 y14 x15 y15 : Int) : bq_req x0 y0 x1 y1 x2 y2 x3 y3 x4 y4 x5 y5 x6 y6 x7 y7 x8 y8 x9 y9 x10 y10 x11 y11 x12 y12 x13 y13 x14 y14 x15 y15 = true ↔ x0 = y0 ∧ x1 = y1 ∧ x2 = y2 ∧ x3 = y3 ∧ x4 = y4 ∧ x5 = y5 ∧ x6 = y6 ∧ x7 = y7 ∧ x8 = y8 ∧ x9 = y9 ∧ x10 = y10 ∧ x11 = y11 ∧ x12 = y12 ∧ x13 = y13 ∧ x14 = y14 ∧ x15 = y15 := by simp [bq_req, and_assoc]
theorem bq_req_refl (x0 x1 x2 x3 x4 x5 x6 x7 x8 x9 x10 x11 x12 x13 x14 x15 : Int) : bq_req x0 x0 x1 x1 x2 x2 x3 x3 x4 x4 x5 x5 x6 x6 x7 x7 x8 x8 x9 x9 x10 x10 x11 x11 x12 x12 x13 x13 x14 x14 x15 x15 = true := by simp [bq_req]
def bq_wait (x0 y0 x1 y1 x2 y2 x3 y3 x4 y4 x5 y5 x6 y6 x7 y7 x8 y8 x9 y9 x10 y10 x11 y11 x12 y12 x13 y13 x14 y14 x15 y15 x16 y16 x17 y17 : Int) : Bool := (((((x0 == y0 && (x1 == y1 && (x2 == y2 && (x3 == y3 && (x4 == y4 && (x5 == y5 && (x6 == y6 && (x7 == y7 && true))))))))) && (((x8 == y8 && x9 == y9)) && (((x10 == y10 && x11 == y11)) && (x12 == y12 && (x13 == y13 && (x14 == y14 && x15 == y15))))))) && (x16 == y16 && x17 == y17))
theorem eq_wait (d : Nat) (w : World) (x0 y0 x1 y1 x2 y2 x3 y3 x4 y4 x5 y5 x6 y6 x7 y7 x8 y8 x9 y9 x10 y10 x11 y11 x12 y12 x13 y13 x14 y14 x15 y15 x16 y16 x17 y17 : Int) : (Op.equalIn (d + 4) 79 (.agg #[.int .u8 x0, .int .u8 x1, .int .u8 x2, .int .u8 x3, .int .u8 x4, .int .u8 x5, .int .u8 x6, .int .u8 x7, .int .i16 x8, .int .i16 x9, .int .i16 x10, .int .i16 x11, .int .u8 x12, .int .u8 x13, .int .i64 x14, .int .i64 x15, .int .i64 x16, .int .i64 x17]) (.agg #[.int .u8 y0, .int .u8 y1, .int .u8 y2, .int .u8 y3, .int .u8 y4, .int .u8 y5, .int .u8 y6, .int .u8 y7, .int .i16 y8, .int .i16 y9, .int .i16 y10, .int .i16 y11, .int .u8 y12, .int .u8 y13, .int .i64 y14, .int .i64 y15, .int .i64 y16, .int .i64 y17])).run Tryz.prog w = .ok ((((((x0 == y0 && (x1 == y1 && (x2 == y2 && (x3 == y3 && (x4 == y4 && (x5 == y5 && (x6 == y6 && (x7 == y7 && true))))))))) && (((x8 == y8 && x9 == y9)) && (((x10 == y10 && x11 == y11)) && (x12 == y12 && (x13 == y13 && (x14 == y14 && x15 == y15))))))) && (x16 == y16 && x17 == y17))) w := by
  refine ef_of Tryz.underlying79 (by kernel_rfl) ?_
  refine ef_cons (by rfl) (by go_simp) (by go_simp) (eq_req (d + 0) w _ _ _ _ _ _ _ _ _ _ _ _ _ _ _ _ _ _ _ _ _ _ _ _ _ _ _ _ _ _ _ _ ) ?_
  refine ef_cons (by rfl) (by go_simp; rfl) (by go_simp; rfl) (by go_simp) ?_
  exact ef_last (by rfl) (by go_simp; rfl) (by go_simp; rfl) (by go_simp)
theorem eq_wait' (x0 y0 x1 y1 x2 y2 x3 y3 x4 y4 x5 y5 x6 y6 x7 y7 x8 y8 x9 y9 x10 y10 x11 y11 x12 y12 x13 y13 x14 y14 x15 y15 x16 y16 x17 y17 : Int) (w : World) : (Op.equalIn 10000 79 (.agg #[.int .u8 x0, .int .u8 x1, .int .u8 x2, .int .u8 x3, .int .u8 x4, .int .u8 x5, .int .u8 x6, .int .u8 x7, .int .i16 x8, .int .i16 x9, .int .i16 x10, .int .i16 x11, .int .u8 x12, .int .u8 x13, .int .i64 x14, .int .i64 x15, .int .i64 x16, .int .i64 x17]) (.agg #[.int .u8 y0, .int .u8 y1, .int .u8 y2, .int .u8 y3, .int .u8 y4, .int .u8 y5, .int .u8 y6, .int .u8 y7, .int .i16 y8, .int .i16 y9, .int .i16 y10, .int .i16 y11, .int .u8 y12, .int .u8 y13, .int .i64 y14, .int .i64 y15, .int .i64 y16, .int .i64 y17])).run Tryz.prog w = .ok (bq_wait x0 y0 x1 y1 x2 y2 x3 y3 x4 y4 x5 y5 x6 y6 x7 y7 x8 y8 x9 y9 x10 y10 x11 y11 x12 y12 x13 y13 x14 y14 x15 y15 x16 y16 x17 y17) w := eq_wait 9996 w x0 y0 x1 y1 x2 y2 x3 y3 x4 y4 x5 y5 x6 y6 x7 y7 x8 y8 x9 y9 x10 y10 x11 y11 x12 y12 x13 y13 x14 y14 x15 y15 x16 y16 x17 y17
theorem bq_wait_iff (x0 y0 x1 y1 x2 y2 x3 y3 x4 y4 x5 y5 x6 y6 x7 y7 x8 y8 x9 y9 x10 y10 x11 y11 x12 y12 x13 y13 x14 y14 x15 y15 x16 y16 x17 y17 : Int) : bq_wait x0 y0 x1 y1 x2 y2 x3 y3 x4 y4 x5 y5 x6 y6 x7 y7 x8 y8 x9 y9 x10 y10 x11 y11 x12 y12 x13 y13 x14 y14 x15 y15 x16 y16 x17 y17 = true ↔ x0 = y0 ∧ x1 = y1 ∧ x2 = y2 ∧ x3 = y3 ∧ x4 = y4 ∧ x5 = y5 ∧ x6 = y6 ∧ x7 = y7 ∧ x8 = y8 ∧ x9 = y9 ∧ x10 = y10 ∧ x11 = y11 ∧ x12 = y12 ∧ x13 = y13 ∧ x14 = y14 ∧ x15 = y15 ∧ x16 = y16 ∧ x17 = y17 := by simp [bq_wait, and_assoc]
theorem bq_wait_refl (x0 x1 x2 x3 x4 x5 x6 x7 x8 x9 x10 x11 x12 x13 x14 x15 x16 x17 : Int) : bq_wait x0 x0 x1 x1 x2 x2 x3 x3 x4 x4 x5 x5 x6 x6 x7 x7 x8 x8 x9 x9 x10 x10 x11 x11 x12 x12 x13 x13 x14 x14 x15 x15 x16 x16 x17 x17 = true := by simp [bq_wait]
def bq_drv (x0 y0 x1 y1 x2 y2 x3 y3 x4 y4 x5 y5 x6 y6 x7 y7 x8 y8 x9 y9 x10 y10 x11 y11 x12 y12 : Int) : Bool := (((x0 == y0 && (x1 == y1 && (x2 == y2 && (x3 == y3 && (x4 == y4 && (x5 == y5 && (x6 == y6 && (x7 == y7 && true))))))))) && (((x8 == y8 && x9 == y9)) && (x10 == y10 && (x11 == y11 && x12 == y12))))
theorem eq_drv (d : Nat) (w : World) (x0 y0 x1 y1 x2 y2 x3 y3 x4 y4 x5 y5 x6 y6 x7 y7 x8 y8 x9 y9 x10 y10 x11 y11 x12 y12 : Int) : (Op.equalIn (d + 3) 81 (.agg #[.int .u8 x0, .int .u8 x1, .int .u8 x2, .int .u8 x3, .int .u8 x4, .int .u8 x5, .int .u8 x6, .int .u8 x7, .int .i16 x8, .int .i16 x9, .int .u8 x10, .int .u8 x11, .int .i64 x12]) (.agg #[.int .u8 y0, .int .u8 y1, .int .u8 y2, .int .u8 y3, .int .u8 y4, .int .u8 y5, .int .u8 y6, .int .u8 y7, .int .i16 y8, .int .i16 y9, .int .u8 y10, .int .u8 y11, .int .i64 y12])).run Tryz.prog w = .ok ((((x0 == y0 && (x1 == y1 && (x2 == y2 && (x3 == y3 && (x4 == y4 && (x5 == y5 && (x6 == y6 && (x7 == y7 && true))))))))) && (((x8 == y8 && x9 == y9)) && (x10 == y10 && (x11 == y11 && x12 == y12))))) w := by
  refine ef_of Tryz.underlying81 (by kernel_rfl) ?_
  refine ef_cons (by rfl) (by go_simp) (by go_simp) (eq_id (d + 0) w _ _ _ _ _ _ _ _ _ _ _ _ _ _ _ _ ) ?_
  refine ef_cons (by rfl) (by go_simp) (by go_simp) (eq_point (d + 0) w _ _ _ _ ) ?_
  refine ef_cons (by rfl) (by go_simp; rfl) (by go_simp; rfl) (by go_simp) ?_
  refine ef_cons (by rfl) (by go_simp; rfl) (by go_simp; rfl) (by go_simp) ?_
  exact ef_last (by rfl) (by go_simp; rfl) (by go_simp; rfl) (by go_simp)
theorem eq_drv' (x0 y0 x1 y1 x2 y2 x3 y3 x4 y4 x5 y5 x6 y6 x7 y7 x8 y8 x9 y9 x10 y10 x11 y11 x12 y12 : Int) (w : World) : (Op.equalIn 10000 81 (.agg #[.int .u8 x0, .int .u8 x1, .int .u8 x2, .int .u8 x3, .int .u8 x4, .int .u8 x5, .int .u8 x6, .int .u8 x7, .int .i16 x8, .int .i16 x9, .int .u8 x10, .int .u8 x11, .int .i64 x12]) (.agg #[.int .u8 y0, .int .u8 y1, .int .u8 y2, .int .u8 y3, .int .u8 y4, .int .u8 y5, .int .u8 y6, .int .u8 y7, .int .i16 y8, .int .i16 y9, .int .u8 y10, .int .u8 y11, .int .i64 y12])).run Tryz.prog w = .ok (bq_drv x0 y0 x1 y1 x2 y2 x3 y3 x4 y4 x5 y5 x6 y6 x7 y7 x8 y8 x9 y9 x10 y10 x11 y11 x12 y12) w := eq_drv 9997 w x0 y0 x1 y1 x2 y2 x3 y3 x4 y4 x5 y5 x6 y6 x7 y7 x8 y8 x9 y9 x10 y10 x11 y11 x12 y12
theorem bq_drv_iff (x0 y0 x1 y1 x2 y2 x3 y3 x4 y4 x5 y5 x6 y6 x7 y7 x8 y8 x9 y9 x10 y10 x11 y11 x12 y12 : Int) : bq_drv x0 y0 x1 y1 x2 y2 x3 y3 x4 y4 x5 y5 x6 y6 x7 y7 x8 y8 x9 y9 x10 y10 x11 y11 x12 y12 = true ↔ x0 = y0 ∧ x1 = y1 ∧ x2 = y2 ∧ x3 = y3 ∧ x4 = y4 ∧ x5 = y5 ∧ x6 = y6 ∧ x7 = y7 ∧ x8 = y8 ∧ x9 = y9 ∧ x10 = y10 ∧ x11 = y11 ∧ x12 = y12 := by simp [bq_drv, and_assoc]
theorem bq_drv_refl (x0 x1 x2 x3 x4 x5 x6 x7 x8 x9 x10 x11 x12 : Int) : bq_drv x0 x0 x1 x1 x2 x2 x3 x3 x4 x4 x5 x5 x6 x6 x7 x7 x8 x8 x9 x9 x10 x10 x11 x11 x12 x12 = true := by simp [bq_drv]
def bq_idle (x0 y0 x1 y1 x2 y2 x3 y3 x4 y4 x5 y5 x6 y6 x7 y7 x8 y8 x9 y9 x10 y10 x11 y11 x12 y12 x13 y13 : Int) : Bool := (((((x0 == y0 && (x1 == y1 && (x2 == y2 && (x3 == y3 && (x4 == y4 && (x5 == y5 && (x6 == y6 && (x7 == y7 && true))))))))) && (((x8 == y8 && x9 == y9)) && (x10 == y10 && (x11 == y11 && x12 == y12))))) && x13 == y13)
theorem eq_idle (d : Nat) (w : World) (x0 y0 x1 y1 x2 y2 x3 y3 x4 y4 x5 y5 x6 y6 x7 y7 x8 y8 x9 y9 x10 y10 x11 y11 x12 y12 x13 y13 : Int) : (Op.equalIn (d + 4) 83 (.agg #[.int .u8 x0, .int .u8 x1, .int .u8 x2, .int .u8 x3, .int .u8 x4, .int .u8 x5, .int .u8 x6, .int .u8 x7, .int .i16 x8, .int .i16 x9, .int .u8 x10, .int .u8 x11, .int .i64 x12, .int .i64 x13]) (.agg #[.int .u8 y0, .int .u8 y1, .int .u8 y2, .int .u8 y3, .int .u8 y4, .int .u8 y5, .int .u8 y6, .int .u8 y7, .int .i16 y8, .int .i16 y9, .int .u8 y10, .int .u8 y11, .int .i64 y12, .int .i64 y13])).run Tryz.prog w = .ok ((((((x0 == y0 && (x1 == y1 && (x2 == y2 && (x3 == y3 && (x4 == y4 && (x5 == y5 && (x6 == y6 && (x7 == y7 && true))))))))) && (((x8 == y8 && x9 == y9)) && (x10 == y10 && (x11 == y11 && x12 == y12))))) && x13 == y13)) w := by
  refine ef_of Tryz.underlying83 (by kernel_rfl) ?_
  refine ef_cons (by rfl) (by go_simp) (by go_simp) (eq_drv (d + 0) w _ _ _ _ _ _ _ _ _ _ _ _ _ _ _ _ _ _ _ _ _ _ _ _ _ _ ) ?_
  exact ef_last (by rfl) (by go_simp; rfl) (by go_simp; rfl) (by go_simp)
theorem eq_idle' (x0 y0 x1 y1 x2 y2 x3 y3 x4 y4 x5 y5 x6 y6 x7 y7 x8 y8 x9 y9 x10 y10 x11 y11 x12 y12 x13 y13 : Int) (w : World) : (Op.equalIn 10000 83 (.agg #[.int .u8 x0, .int .u8 x1, .int .u8 x2, .int .u8 x3, .int .u8 x4, .int .u8 x5, .int .u8 x6, .int .u8 x7, .int .i16 x8, .int .i16 x9, .int .u8 x10, .int .u8 x11, .int .i64 x12, .int .i64 x13]) (.agg #[.int .u8 y0, .int .u8 y1, .int .u8 y2, .int .u8 y3, .int .u8 y4, .int .u8 y5, .int .u8 y6, .int .u8 y7, .int .i16 y8, .int .i16 y9, .int .u8 y10, .int .u8 y11, .int .i64 y12, .int .i64 y13])).run Tryz.prog w = .ok (bq_idle x0 y0 x1 y1 x2 y2 x3 y3 x4 y4 x5 y5 x6 y6 x7 y7 x8 y8 x9 y9 x10 y10 x11 y11 x12 y12 x13 y13) w := eq_idle 9996 w x0 y0 x1 y1 x2 y2 x3 y3 x4 y4 x5 y5 x6 y6 x7 y7 x8 y8 x9 y9 x10 y10 x11 y11 x12 y12 x13 y13
theorem bq_idle_iff (x0 y0 x1 y1 x2 y2 x3 y3 x4 y4 x5 y5 x6 y6 x7 y7 x8 y8 x9 y9 x10 y10 x11 y11 x12 y12 x13 y13 : Int) : bq_idle x0 y0 x1 y1 x2 y2 x3 y3 x4 y4 x5 y5 x6 y6 x7 y7 x8 y8 x9 y9 x10 y10 x11 y11 x12 y12 x13 y13 = true ↔ x0 = y0 ∧ x1 = y1 ∧ x2 = y2 ∧ x3 = y3 ∧ x4 = y4 ∧ x5 = y5 ∧ x6 = y6 ∧ x7 = y7 ∧ x8 = y8 ∧ x9 = y9 ∧ x10 = y10 ∧ x11 = y11 ∧ x12 = y12 ∧ x13 = y13 := by simp [bq_idle, and_assoc]
theorem bq_idle_refl (x0 x1 x2 x3 x4 x5 x6 x7 x8 x9 x10 x11 x12 x13 : Int) : bq_idle x0 x0 x1 x1 x2 x2 x3 x3 x4 x4 x5 x5 x6 x6 x7 x7 x8 x8 x9 x9 x10 x10 x11 x11 x12 x12 x13 x13 = true := by simp [bq_idle]
def bq_edge (x0 y0 x1 y1 x2 y2 : Int) : Bool := (x0 == y0 && (x1 == y1 && x2 == y2))
theorem eq_edge (d : Nat) (w : World) (x0 y0 x1 y1 x2 y2 : Int) : (Op.equalIn (d + 2) 114 (.agg #[.int .i64 x0, .int .i64 x1, .int .i64 x2]) (.agg #[.int .i64 y0, .int .i64 y1, .int .i64 y2])).run Tryz.prog w = .ok ((x0 == y0 && (x1 == y1 && x2 == y2))) w := by
  refine ef_of Tryz.underlying114 (by kernel_rfl) ?_
  refine ef_cons (by rfl) (by go_simp; rfl) (by go_simp; rfl) (by go_simp) ?_
  refine ef_cons (by rfl) (by go_simp; rfl) (by go_simp; rfl) (by go_simp) ?_
  exact ef_last (by rfl) (by go_simp; rfl) (by go_simp; rfl) (by go_simp)
theorem eq_edge' (x0 y0 x1 y1 x2 y2 : Int) (w : World) : (Op.equalIn 10000 114 (.agg #[.int .i64 x0, .int .i64 x1, .int .i64 x2]) (.agg #[.int .i64 y0, .int .i64 y1, .int .i64 y2])).run Tryz.prog w = .ok (bq_edge x0 y0 x1 y1 x2 y2) w := eq_edge 9998 w x0 y0 x1 y1 x2 y2
theorem bq_edge_iff (x0 y0 x1 y1 x2 y2 : Int) : bq_edge x0 y0 x1 y1 x2 y2 = true ↔ x0 = y0 ∧ x1 = y1 ∧ x2 = y2 := by simp [bq_edge]
theorem bq_edge_refl (x0 x1 x2 : Int) : bq_edge x0 x0 x1 x1 x2 x2 = true := by simp [bq_edge]
def bq_pair (x0 y0 x1 y1 : Int) : Bool := (x0 == y0 && x1 == y1)
theorem eq_pair (d : Nat) (w : World) (x0 y0 x1 y1 : Int) : (Op.equalIn (d + 2) 69 (.agg #[.int .i64 x0, .int .i64 x1]) (.agg #[.int .i64 y0, .int .i64 y1])).run Tryz.prog w = .ok ((x0 == y0 && x1 == y1)) w := by
  refine ef_of Tryz.underlying69 (by kernel_rfl) ?_
  refine ef_cons (by rfl) (by go_simp; rfl) (by go_simp; rfl) (by go_simp) ?_
  exact ef_last (by rfl) (by go_simp; rfl) (by go_simp; rfl) (by go_simp)
theorem eq_pair' (x0 y0 x1 y1 : Int) (w : World) : (Op.equalIn 10000 69 (.agg #[.int .i64 x0, .int .i64 x1]) (.agg #[.int .i64 y0, .int .i64 y1])).run Tryz.prog w = .ok (bq_pair x0 y0 x1 y1) w := eq_pair 9998 w x0 y0 x1 y1
theorem bq_pair_iff (x0 y0 x1 y1 : Int) : bq_pair x0 y0 x1 y1 = true ↔ x0 = y0 ∧ x1 = y1 := by simp [bq_pair]
theorem bq_pair_refl (x0 x1 : Int) : bq_pair x0 x0 x1 x1 = true := by simp [bq_pair]
end Go.Proofs.YtcaicgipibcicaaGreat
