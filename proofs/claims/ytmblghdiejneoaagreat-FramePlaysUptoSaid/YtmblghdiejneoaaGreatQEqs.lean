/- Equality of arrays of bytes, of spans and of frames, as one Bool. -/
import Derived.Test.YtmblghdiejneoaaGreatQBase
import Derived.Test.YtmblghdiejneoaaGreatProg
import Derived.ChangeKeysEq
import Derived.Laws.Cover3
import Derived.Lib.Hide
namespace Go.Proofs.YtmblghdiejneoaaGreat
open Go.RowKit

section
variable {P : Program}
theorem eqi_cons {d : Nat} {e n : Nat} {xs ys : Array Value} {i : Nat} {is : List Nat} {a b : Value} {r s : Bool} {w : World}
    (ha : (part e xs (i * n)).run P w = .ok a w) (hb : (part e ys (i * n)).run P w = .ok b w) (he : (Op.equalIn d e a b).run P w = .ok r w) (hr : (Op.eqItems d e n xs ys is).run P w = .ok s w) :
    (Op.eqItems d e n xs ys (i :: is)).run P w = .ok (r && s) w := by
  rw [Op.eqItems]
  simp only [Sem.run_bind, ha, hb, he, Result.andThen_ok]
  cases r
  · simp
  · simpa using hr
theorem eqi_nil {d : Nat} {e n : Nat} {xs ys : Array Value} {w : World} : (Op.eqItems d e n xs ys []).run P w = .ok true w := by simp [Op.eqItems]
end

theorem eq_arr2 (d : Nat) (a b c e : Int) (w : World) : (Op.equalIn (d + 2) 274 (.agg #[.int .u8 a, .int .u8 b]) (.agg #[.int .u8 c, .int .u8 e])).run Tryz.prog w = .ok (a == c && (b == e && true)) w := by
  obtain ⟨i, hi, _⟩ := info_parts (show (Tryz.prog.info? 5).map (fun i => (i.zero, i.size, i.bytes)) = some (some (.int .u8 0), 1, 1) by kernel_rfl)
  have hc : Tryz.prog.cellsOf 5 = 1 := by kernel_rfl
  rw [run_equalIn_array w (d + 1) _ _ Tryz.underlying274 hi, hc]
  simp only [List.range_succ, List.range_zero, List.nil_append, List.cons_append]
  refine eqi_cons (by go_simp; rfl) (by go_simp; rfl) (by go_simp) ?_
  exact eqi_cons (by go_simp; rfl) (by go_simp; rfl) (by go_simp) eqi_nil
theorem eq_arr4 (d : Nat) (a b c e a' b' c' e' : Int) (w : World) : (Op.equalIn (d + 2) 282 (.agg #[.int .u8 a, .int .u8 b, .int .u8 c, .int .u8 e]) (.agg #[.int .u8 a', .int .u8 b', .int .u8 c', .int .u8 e'])).run Tryz.prog w =
    .ok (a == a' && (b == b' && (c == c' && (e == e' && true)))) w := by
  obtain ⟨i, hi, _⟩ := info_parts (show (Tryz.prog.info? 5).map (fun i => (i.zero, i.size, i.bytes)) = some (some (.int .u8 0), 1, 1) by kernel_rfl)
  have hc : Tryz.prog.cellsOf 5 = 1 := by kernel_rfl
  rw [run_equalIn_array w (d + 1) _ _ Tryz.underlying282 hi, hc]
  simp only [List.range_succ, List.range_zero, List.nil_append, List.cons_append]
  refine eqi_cons (by go_simp; rfl) (by go_simp; rfl) (by go_simp) ?_
  refine eqi_cons (by go_simp; rfl) (by go_simp; rfl) (by go_simp) ?_
  refine eqi_cons (by go_simp; rfl) (by go_simp; rfl) (by go_simp) ?_
  exact eqi_cons (by go_simp; rfl) (by go_simp; rfl) (by go_simp) eqi_nil

/-- Two arrays, as one Bool (closed to the walk). -/
def bq2 (a b c e : Int) : Bool := a == c && (b == e && true)
def bq4 (a b c e a' b' c' e' : Int) : Bool := a == a' && (b == b' && (c == c' && (e == e' && true)))
theorem eq_arr2' (a b c e : Int) (w : World) : (Op.equalIn 10000 274 (.agg #[.int .u8 a, .int .u8 b]) (.agg #[.int .u8 c, .int .u8 e])).run Tryz.prog w = .ok (bq2 a b c e) w := eq_arr2 9998 a b c e w
theorem eq_arr4' (a b c e a' b' c' e' : Int) (w : World) : (Op.equalIn 10000 282 (.agg #[.int .u8 a, .int .u8 b, .int .u8 c, .int .u8 e]) (.agg #[.int .u8 a', .int .u8 b', .int .u8 c', .int .u8 e'])).run Tryz.prog w =
    .ok (bq4 a b c e a' b' c' e') w := eq_arr4 9998 a b c e a' b' c' e' w

section
variable {P : Program} {d : Nat} {xs ys : Array Value} {f : Field} {fs : List Field} {a b : Value} {r s : Bool} {w : World}
theorem ef_last (hn : (f.name == "_") = false) (ha : (part f.type xs f.offset).run P w = .ok a w) (hb : (part f.type ys f.offset).run P w = .ok b w) (he : (Op.equalIn d f.type a b).run P w = .ok r w) : (Op.eqFields d xs ys [f]).run P w = .ok r w := by
  have hn' : f.name ≠ "_" := by simpa using hn
  simp only [Op.eqFields, if_pos hn', Sem.run_bind, ha, hb, he, Result.andThen_ok]
  cases r <;> simp
theorem ef_cons (hn : (f.name == "_") = false) (ha : (part f.type xs f.offset).run P w = .ok a w) (hb : (part f.type ys f.offset).run P w = .ok b w) (he : (Op.equalIn d f.type a b).run P w = .ok r w) (hr : (Op.eqFields d xs ys fs).run P w = .ok s w) : (Op.eqFields d xs ys (f :: fs)).run P w = .ok (r && s) w := by
  have hn' : f.name ≠ "_" := by simpa using hn
  rw [Op.eqFields]
  simp only [if_pos hn', Sem.run_bind, ha, hb, he, Result.andThen_ok]
  cases r
  · simp
  · simpa using hr
theorem ef_of {t : TypeId} {fs : Array Field} (hu : P.underlying t = some (.struct fs)) (hp : P.stoodInHeld t = false) (h : (Op.eqFields d xs ys fs.toList).run P w = .ok r w) : (Op.equalIn (d + 1) t (.agg xs) (.agg ys)).run P w = .ok r w := by
  have hf : P.fieldsOf t = fs := by simp [Program.fieldsOf, hu]
  rw [run_equalIn_struct (P := P) w d t xs ys (by rw [hf]; exact hu) hp, hf]
  exact h
end
theorem eq_span (d : Nat) (w : World) (x0 y0 x1 y1 : Int) :
    (Op.equalIn (d + 2) 60 (.agg #[.int .i64 x0, .int .i64 x1]) (.agg #[.int .i64 y0, .int .i64 y1])).run Tryz.prog w = .ok (x0 == y0 && x1 == y1) w := by
  refine ef_of Tryz.underlying60 (by kernel_rfl) ?_
  refine ef_cons (by rfl) (by go_simp; rfl) (by go_simp; rfl) (by go_simp) ?_
  exact ef_last (by rfl) (by go_simp; rfl) (by go_simp; rfl) (by go_simp)
theorem eq_frame (d : Nat) (w : World) (x0 y0 : Int) (x1 y1 : Int) (x2 y2 : Int) (x3 y3 : ByteArray) :
    (Op.equalIn (d + 3) 82 (.agg #[.int .u8 x0, .int .i64 x1, .int .i64 x2, .string x3]) (.agg #[.int .u8 y0, .int .i64 y1, .int .i64 y2, .string y3])).run Tryz.prog w = .ok (x0 == y0 && ((x1 == y1 && x2 == y2) && (x3.toList == y3.toList))) w := by
  refine ef_of Tryz.underlying82 (by kernel_rfl) ?_
  refine ef_cons (by rfl) (by go_simp; rfl) (by go_simp; rfl) (by go_simp) ?_
  refine ef_cons (by rfl) (by go_simp) (by go_simp) (eq_span (d + 0) w _ _ _ _) ?_
  exact ef_last (by rfl) (by go_simp; rfl) (by go_simp; rfl) (by go_simp)
def bqS (x0 y0 x1 y1 : Int) : Bool := x0 == y0 && x1 == y1
def bqF (x0 y0 x1 y1 x2 y2 : Int) (x3 y3 : ByteArray) : Bool := x0 == y0 && ((x1 == y1 && x2 == y2) && (x3.toList == y3.toList))
theorem eq_span' (x0 y0 x1 y1 : Int) (w : World) : (Op.equalIn 10000 60 (.agg #[.int .i64 x0, .int .i64 x1]) (.agg #[.int .i64 y0, .int .i64 y1])).run Tryz.prog w = .ok (bqS x0 y0 x1 y1) w := eq_span 9998 w x0 y0 x1 y1
theorem eq_frame' (x0 y0 x1 y1 x2 y2 : Int) (x3 y3 : ByteArray) (w : World) : (Op.equalIn 10000 82 (.agg #[.int .u8 x0, .int .i64 x1, .int .i64 x2, .string x3]) (.agg #[.int .u8 y0, .int .i64 y1, .int .i64 y2, .string y3])).run Tryz.prog w = .ok (bqF x0 y0 x1 y1 x2 y2 x3 y3) w := eq_frame 9997 w x0 y0 x1 y1 x2 y2 x3 y3

theorem mark_any (w : World) : Calls Tryz.prog 164 #[] w fun e w' => e = .returned (.agg #[.int .u8 197, .int .u8 171]) ∧ w.alloc (.cells #[.int .u8 197, .int .u8 171] 274) = w' := by
  go_enter Tryz.func164, Tryz.ntmps164
  go_wp2
  exact bodyPost_ret (v := .agg #[.int .u8 197, .int .u8 171]) (by simp [results, Tryz.results164, go_sem]) rfl ⟨rfl, rfl⟩

end Go.Proofs.YtmblghdiejneoaaGreat
