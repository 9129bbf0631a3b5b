/- The codec's Writer: numbers. -/
import Derived.Test.YtcaicgipibcicaaGreatQWr
import Derived.StillTailTactics
namespace Go.Proofs.YtcaicgipibcicaaGreat
set_option maxRecDepth 100000
set_option linter.unusedVariables false
set_option linter.unusedSimpArgs false
open Go.RowKit Go.Sort

/-- A number by sevens. -/
def varB (n : Nat) : List Int := if h : n ≤ 127 then [(n : Int)] else bits .or .u8 ((n : Int) % 256) 128 :: varB (n / 128)
termination_by n
decreasing_by omega
theorem varB_small {n : Nat} (h : n ≤ 127) : varB n = [(n : Int)] := by rw [varB, dif_pos h]
theorem varB_big {n : Nat} (h : ¬ n ≤ 127) : varB n = bits .or .u8 ((n : Int) % 256) 128 :: varB (n / 128) := by rw [varB, dif_neg h]
theorem varB_len : ∀ (j n : Nat), n < 128 ^ (j + 1) → (varB n).length ≤ j + 1
  | 0, n, h => by rw [varB_small (by simpa using Nat.le_of_lt_succ h)]; simp
  | j + 1, n, h => by
    by_cases h1 : n ≤ 127
    · rw [varB_small h1]; simp
    · rw [varB_big h1]
      have := varB_len j (n / 128) (by rw [Nat.div_lt_iff_lt_mul (by omega)]; rw [Nat.pow_succ] at h; exact h)
      simp
      omega
theorem varB_ten {n : Nat} (h : n < 18446744073709551616) : (varB n).length ≤ 10 := varB_len 9 n (by omega)

theorem byte_at (w : World) (x : Int) : ∀ j u, (cellsOf bcell [x])[j]? = some u → (w.alloc (.cells #[.int .u8 x] 5)).cell? ⟨w.heap.size, 0 + j, none⟩ = some u := by
  intro j u hu
  rw [Nat.zero_add, cell_of_row _ _ _ _ _ (0, 0) (heap_alloc_new w (.cells #[.int .u8 x] 5))]
  cases j with
  | zero => simpa [cellsOf, bcell] using hu
  | succ j => simp [cellsOf, bcell] at hu

set_option maxHeartbeats 4000000 in
theorem var_any (w : World) (WB : Nat) (sv : Value) (l : List Int) (h : W1 w WB sv l) (n : Nat) (hn : n < 18446744073709551616) (hl : l.length ≤ 1000000000) :
    Calls Tryz.prog 158 #[.pointer (some ⟨WB, 0, none⟩), .int .u64 n] w fun e w' => e = .returned (.tuple #[]) ∧ Wrote w WB sv (l ++ varB n) w' := by
  have H := Lib.hid h
  clear h
  go_enter Tryz.func158, Tryz.ntmps158
  go_wp2_with fail
  go_loopw [1] (fun a wr => Hid (∃ (k : Nat) (d : List Int), a = .int .u64 k ∧ d ++ varB k = varB n ∧ k < 18446744073709551616 ∧ Wrote w WB sv (l ++ d) wr)) (fun a _ => (intOf a).toNat)
  case atStart => exact Lib.hid ⟨n, [], rfl, rfl, hn, by rw [List.append_nil]; exact Wrote.nil H.out⟩
  case round =>
    obtain ⟨k, d, rfl, hd, hk, hw⟩ := hrel.out
    clear hrel
    have HW := Lib.hid hw
    have HD := Lib.hid hd
    clear hw hd
    have HL := Lib.hid (show (l ++ d).length + 1 ≤ 1000000011 by
      have h1 := varB_ten hn
      rw [← HD.out, List.length_append] at h1
      have h2 : 0 < (varB k).length := by by_cases hk : k ≤ 127 <;> simp [varB_small, varB_big, hk]
      rw [List.length_append]
      omega)
    obtain ⟨sv1, hw1, hk1, hn1⟩ := HW.out
    have H1 := Lib.hid hw1
    have HWN := Lib.hid (fun (x : Int) (w2 : World) (h2 : Wrote (wr.alloc (.cells #[.int .u8 x] 5)) WB sv1 (l ++ d ++ [x]) w2) => show Wrote w WB sv (l ++ (d ++ [x])) w2 from by
      rw [← List.append_assoc]
      exact Wrote.step hk1 hn1 (Wrote.after (Keep.alloc _ _ _) h2))
    clear hw1 hk1 hn1
    by_cases h1 : k ≤ 127
    · go_wp2_with fail
      refine (put_any (wr.alloc (.cells #[.int .u8 k] 5)) WB sv1 (l ++ d) [(k : Int)] (H1.out.alloc _) wr.heap.size 0 1 1 rfl (by omega) (byte_at wr k) (by have := HL.out; omega)).mono ?_
      rintro e w2 ⟨rfl, hb2⟩
      have HE := Lib.hid (show Wrote w WB sv (l ++ varB n) w2 from by
        have h3 := HWN.out _ _ hb2
        rw [← HD.out, varB_small h1]
        exact h3)
      go_wp2_with fail
      exact bodyPost_end (v := .tuple #[]) (by simp [results, Tryz.results158, go_sem]) rfl ⟨rfl, HE.out⟩
    · go_wp2_with fail
      have HV := Lib.hid (varB_big h1)
      generalize bits .or .u8 ((k : Int) % 256) 128 = x at *
      refine (put_any (wr.alloc (.cells #[.int .u8 x] 5)) WB sv1 (l ++ d) [x] (H1.out.alloc _) wr.heap.size 0 1 1 rfl (by omega) (byte_at wr x) (by have := HL.out; omega)).mono ?_
      rintro e w2 ⟨rfl, hb2⟩
      have HE := Lib.hid (HWN.out _ _ hb2)
      go_wp2_with fail
      go_roundw
      case rel => exact Lib.hid ⟨k / 128, d ++ [x], by go_num, by rw [List.append_assoc, ← HD.out, HV.out]; rfl, by omega, HE.out⟩
      case measure => simp [intOf]; omega
end Go.Proofs.YtcaicgipibcicaaGreat

/- The codec's Writer: ids, points, bytes, integers. -/
namespace Go.Proofs.YtcaicgipibcicaaGreat
set_option maxRecDepth 100000
set_option linter.unusedVariables false
set_option linter.unusedSimpArgs false
open Go.RowKit Go.Sort

theorem lit_at (w : World) (l : List Int) (cs : Array Value) (t : TypeId) (h : cs = (cellsOf bcell l).toArray) : ∀ j u, (cellsOf bcell l)[j]? = some u → (w.alloc (.cells cs t)).cell? ⟨w.heap.size, 0 + j, none⟩ = some u := by
  intro j u hu
  rw [Nat.zero_add, cell_of_row _ _ _ _ _ (0, 0) (heap_alloc_new w (.cells cs t)), h]
  simpa using hu
/-- An integer's number: the sign at the end. -/
def zzN (n : Int) : Nat := (IntKind.u64.wrap (IntKind.u64.wrap n * 2)).toNat ^^^ (IntKind.u64.wrap (n / 9223372036854775808)).toNat
theorem wrap_lt (n : Int) : 0 ≤ IntKind.u64.wrap n ∧ IntKind.u64.wrap n < 18446744073709551616 := by rw [IntKind.wrap_u64]; omega
theorem zzN_eq (n : Int) : bits .xor .u64 (IntKind.u64.wrap (IntKind.u64.wrap n * 2)) (IntKind.u64.wrap (n / 9223372036854775808)) = (zzN n : Int) :=
  u64_xor _ _ (wrap_lt _).1 (wrap_lt _).2 (wrap_lt _).1 (wrap_lt _).2
theorem zzN_lt (n : Int) : zzN n < 18446744073709551616 := by
  have h1 := wrap_lt (IntKind.u64.wrap n * 2)
  have h2 := wrap_lt (n / 9223372036854775808)
  exact Nat.xor_lt_two_pow (n := 64) (by omega) (by omega)
def intB (n : Int) : List Int := varB (zzN n)
theorem intB_len (n : Int) : (intB n).length ≤ 10 := varB_ten (zzN_lt n)
def pointB (x y : Int) : List Int := [IntKind.u16.wrap x / 256 % 256, IntKind.u16.wrap x % 256, IntKind.u16.wrap y / 256 % 256, IntKind.u16.wrap y % 256]

set_option maxHeartbeats 4000000 in
theorem int_any (w : World) (WB : Nat) (sv : Value) (l : List Int) (h : W1 w WB sv l) (n : Int) (hn : i64ok n) (hl : l.length ≤ 1000000000) :
    Calls Tryz.prog 215 #[.pointer (some ⟨WB, 0, none⟩), .int .i64 n] w fun e w' => e = .returned (.tuple #[]) ∧ Wrote w WB sv (l ++ intB n) w' := by
  have H := Lib.hid h
  obtain ⟨n1, n2⟩ := hn
  clear h
  go_enter Tryz.func215, Tryz.ntmps215
  go_wp2_with fail
  rw [zzN_eq]
  refine (var_any w WB sv l H.out (zzN n) (zzN_lt n) hl).mono ?_
  rintro e w2 ⟨rfl, hb2⟩
  have HE := Lib.hid hb2
  clear hb2
  go_wp2_with fail
  exact bodyPost_end (v := .tuple #[]) (by simp [results, Tryz.results215, go_sem]) rfl ⟨rfl, HE.out⟩
set_option maxHeartbeats 4000000 in
theorem point_any (w : World) (WB : Nat) (sv : Value) (l : List Int) (h : W1 w WB sv l) (x y : Int) (hx : i16ok x) (hy : i16ok y) (hl : l.length ≤ 1000000000) :
    Calls Tryz.prog 211 #[.pointer (some ⟨WB, 0, none⟩), .agg #[.int .i16 x, .int .i16 y]] w fun e w' => e = .returned (.tuple #[]) ∧ Wrote w WB sv (l ++ pointB x y) w' := by
  have H := Lib.hid h
  obtain ⟨n1, n2⟩ := hx
  obtain ⟨n3, n4⟩ := hy
  clear h
  go_enter Tryz.func211, Tryz.ntmps211
  go_wp2_with fail
  go_quiet (fail)
  go_wp2_with fail
  have HS := Lib.hid (show ((w.alloc (.cells #[.int .i16 x, .int .i16 y] 75)).drewN nq).heap.size = w.heap.size + 1 from (show (w.alloc (.cells #[.int .i16 x, .int .i16 y] 75)).heap.size = w.heap.size + 1 by simp))
  have HK := Lib.hid (show Keep (fun _ => False) w ((w.alloc (.cells #[.int .i16 x, .int .i16 y] 75)).drewN nq) from (Keep.alloc (fun _ => False) w (.cells #[.int .i16 x, .int .i16 y] 75)).trans (Y := fun _ => False) ⟨rfl, rfl, rfl, Nat.le_refl _, fun _ _ _ => rfl⟩ (fun _ _ h => h) (fun _ _ h => h))
  rw [← HS.out]
  generalize (w.alloc (.cells #[.int .i16 x, .int .i16 y] 75)).drewN nq = wa at *
  refine (put_any (wa.alloc (.cells #[.int .u8 (IntKind.u16.wrap x / 256 % 256), .int .u8 (IntKind.u16.wrap x % 256), .int .u8 (IntKind.u16.wrap y / 256 % 256), .int .u8 (IntKind.u16.wrap y % 256)] 5)) WB sv l (pointB x y) ((H.out.keep HK.out id (fun _ _ => id)).alloc _) wa.heap.size 0 4 4 rfl (by omega) (lit_at wa (pointB x y) _ _ rfl) (by omega)).mono ?_
  rintro e w2 ⟨rfl, hb2⟩
  have HE := Lib.hid (Wrote.after HK.out (Wrote.after (Keep.alloc _ _ _) hb2))
  clear hb2
  go_wp2_with fail
  exact bodyPost_end (v := .tuple #[]) (by simp [results, Tryz.results211, go_sem]) rfl ⟨rfl, HE.out⟩
set_option maxHeartbeats 4000000 in
theorem wid_any (w : World) (WB : Nat) (sv : Value) (l : List Int) (h : W1 w WB sv l) (x0 x1 x2 x3 x4 x5 x6 x7 : Int) (hl : l.length ≤ 1000000000) :
    Calls Tryz.prog 209 #[.pointer (some ⟨WB, 0, none⟩), .agg #[.int .u8 x0, .int .u8 x1, .int .u8 x2, .int .u8 x3, .int .u8 x4, .int .u8 x5, .int .u8 x6, .int .u8 x7]] w fun e w' => e = .returned (.tuple #[]) ∧ Wrote w WB sv (l ++ [x0, x1, x2, x3, x4, x5, x6, x7]) w' := by
  have H := Lib.hid h
  clear h
  go_enter Tryz.func209, Tryz.ntmps209
  go_wp2_with fail
  refine (put_any (w.alloc (.cells #[.int .u8 x0, .int .u8 x1, .int .u8 x2, .int .u8 x3, .int .u8 x4, .int .u8 x5, .int .u8 x6, .int .u8 x7] 72)) WB sv l [x0, x1, x2, x3, x4, x5, x6, x7] (H.out.alloc _) w.heap.size 0 8 8 rfl (by omega) (lit_at w [x0, x1, x2, x3, x4, x5, x6, x7] _ _ rfl) (by omega)).mono ?_
  rintro e w2 ⟨rfl, hb2⟩
  have HE := Lib.hid (Wrote.after (Keep.alloc _ _ _) hb2)
  clear hb2
  go_wp2_with fail
  exact bodyPost_end (v := .tuple #[]) (by simp [results, Tryz.results209, go_sem]) rfl ⟨rfl, HE.out⟩
set_option maxHeartbeats 4000000 in
theorem byte_any (w : World) (WB : Nat) (sv : Value) (l : List Int) (h : W1 w WB sv l) (x : Int) (hl : l.length ≤ 1000000000) :
    Calls Tryz.prog 213 #[.pointer (some ⟨WB, 0, none⟩), .int .u8 x] w fun e w' => e = .returned (.tuple #[]) ∧ Wrote w WB sv (l ++ [x]) w' := by
  have H := Lib.hid h
  clear h
  go_enter Tryz.func213, Tryz.ntmps213
  go_wp2_with fail
  refine (put_any (w.alloc (.cells #[.int .u8 x] 5)) WB sv l [x] (H.out.alloc _) w.heap.size 0 1 1 rfl (by omega) (byte_at w x) (by omega)).mono ?_
  rintro e w2 ⟨rfl, hb2⟩
  have HE := Lib.hid (Wrote.after (Keep.alloc _ _ _) hb2)
  go_wp2_with fail
  exact bodyPost_end (v := .tuple #[]) (by simp [results, Tryz.results213, go_sem]) rfl ⟨rfl, HE.out⟩
end Go.Proofs.YtcaicgipibcicaaGreat

/- The journal's gate while it writes. -/
namespace Go.Proofs.YtcaicgipibcicaaGreat
set_option maxRecDepth 100000
set_option linter.unusedVariables false
set_option linter.unusedSimpArgs false
open Go.RowKit Go.Sort

/-- A gate that writes; what stood in wS is left alone. -/
structure Gt (wS : World) (GB WB : Nat) (sv : Value) (l : List Int) (w : World) : Prop where
  gate : w.heap[GB]? = some (.cells #[.pointer (some ⟨WB, 0, none⟩), .pointer none, .int .i64 0] 147 (0, 0))
  w1 : W1 w WB sv l
  gw : GB ≠ WB
  gs : sv.ownBlock ≠ some GB
  below : Below wS.heap.size wS w
  wb : wS.heap.size ≤ WB
  sb : ∀ g, sv.ownBlock = some g → wS.heap.size ≤ g
def GWrote (wS : World) (GB WB : Nat) (sv : Value) (l : List Int) (w w' : World) : Prop :=
  ∃ sv', Gt wS GB WB sv' l w' ∧ Keep (fun k => k = WB ∨ sv.ownBlock = some k) w w' ∧ ∀ g, sv'.ownBlock = some g → sv.ownBlock = some g ∨ w.heap.size ≤ g
theorem Gt.cells {wS : World} {GB WB : Nat} {sv : Value} {l : List Int} {w : World} (h : Gt wS GB WB sv l w) : w.cell? ⟨GB, 0, none⟩ = some (.pointer (some ⟨WB, 0, none⟩)) := by
  rw [cell_of_row w GB _ _ _ (0, 0) h.gate]; rfl
theorem Gt.keep {wS : World} {GB WB : Nat} {sv : Value} {l : List Int} {w w' : World} (h : Gt wS GB WB sv l w) (hk : Keep (fun _ => False) w w') : Gt wS GB WB sv l w' :=
  ⟨hk.old h.gate id, h.w1.keep hk id (fun _ _ => id), h.gw, h.gs, h.below.trans (hk.below h.below.size (fun _ _ => id)), h.wb, h.sb⟩
theorem Gt.alloc {wS : World} {GB WB : Nat} {sv : Value} {l : List Int} {w : World} (h : Gt wS GB WB sv l w) (o : Obj) : Gt wS GB WB sv l (w.alloc o) := h.keep (Keep.alloc _ _ _)
theorem Gt.drew {wS : World} {GB WB : Nat} {sv : Value} {l : List Int} {w : World} (h : Gt wS GB WB sv l w) : Gt wS GB WB sv l w.drew := h.keep (Keep.drew _ _)
theorem Gt.write {wS : World} {GB WB : Nat} {sv : Value} {l l' : List Int} {w w' : World} (h : Gt wS GB WB sv l w) (hw : Wrote w WB sv l' w') : GWrote wS GB WB sv l' w w' := by
  obtain ⟨sv', a1, a2, a3⟩ := hw
  have hs := h.below.size
  refine ⟨sv', ⟨a2.old h.gate (fun hx => hx.elim h.gw h.gs), a1, h.gw, ?_, h.below.trans (a2.below hs ?_), h.wb, ?_⟩, a2, a3⟩
  · intro he
    rcases a3 _ he with h1 | h1
    · exact h.gs h1
    · have := lt_of_block h.gate; omega
  · rintro i hi (h1 | h1)
    · have := h.wb; omega
    · have := h.sb _ h1; omega
  · intro g hg
    rcases a3 _ hg with h1 | h1
    · exact h.sb _ h1
    · omega
theorem GWrote.step {wS : World} {GB WB : Nat} {sv sv1 : Value} {l2 : List Int} {w w1 w2 : World} (a2 : Keep (fun k => k = WB ∨ sv.ownBlock = some k) w w1) (a3 : ∀ g, sv1.ownBlock = some g → sv.ownBlock = some g ∨ w.heap.size ≤ g) (h : GWrote wS GB WB sv1 l2 w1 w2) : GWrote wS GB WB sv l2 w w2 := by
  obtain ⟨sv2, b1, b2, b3⟩ := h
  refine ⟨sv2, b1, a2.trans b2 (fun _ _ h => h) (fun k hk h => ?_), fun g hg => ?_⟩
  · rcases h with h | h
    · exact .inl h
    · rcases a3 k h with h | h
      · exact .inr h
      · omega
  · rcases b3 g hg with h | h
    · exact a3 g h
    · exact .inr (Nat.le_trans a2.size h)
theorem GWrote.after {wS : World} {GB WB : Nat} {sv : Value} {l2 : List Int} {w w1 w2 : World} (hk : Keep (fun _ => False) w w1) (h : GWrote wS GB WB sv l2 w1 w2) : GWrote wS GB WB sv l2 w w2 :=
  h.step (hk.mono (fun _ _ h => h.elim)) (fun g hg => .inl hg)
theorem GWrote.nil {wS : World} {GB WB : Nat} {sv : Value} {l : List Int} {w : World} (h : Gt wS GB WB sv l w) : GWrote wS GB WB sv l w w := ⟨sv, h, Keep.refl _ _, fun g hg => .inl hg⟩
/-- A block that is none of the writer's. -/
def Free (sv : Value) (WB b : Nat) : Prop := b ≠ WB ∧ sv.ownBlock ≠ some b
theorem Free.next {sv sv' : Value} {WB b : Nat} {w : World} (h : Free sv WB b) (hb : b < w.heap.size) (h3 : ∀ g, sv'.ownBlock = some g → sv.ownBlock = some g ∨ w.heap.size ≤ g) : Free sv' WB b := by
  refine ⟨h.1, fun he => ?_⟩
  rcases h3 _ he with h1 | h1
  · exact h.2 h1
  · omega
theorem Free.new {wS : World} {GB WB : Nat} {sv : Value} {l : List Int} {w : World} (h : Gt wS GB WB sv l w) {b : Nat} (hb : w.heap.size ≤ b) : Free sv WB b := by
  refine ⟨fun he => ?_, fun he => ?_⟩
  · have := lt_of_block h.w1.box; omega
  · have := h.w1.own.lt _ he; omega
theorem Free.not {sv : Value} {WB b : Nat} (h : Free sv WB b) : ¬ (b = WB ∨ sv.ownBlock = some b) := fun hx => hx.elim h.1 h.2
theorem Free.old {wS : World} {GB WB : Nat} {sv : Value} {l : List Int} {w : World} (h : Gt wS GB WB sv l w) {b : Nat} (hb : b < wS.heap.size) : Free sv WB b :=
  ⟨fun he => by have := h.wb; omega, fun he => by have := h.sb _ he; omega⟩

set_option maxHeartbeats 4000000 in
theorem nat_any (wS w : World) (GB WB : Nat) (sv : Value) (l : List Int) (h : Gt wS GB WB sv l w) (b o : Nat) (n mx : Int) (hp : w.cell? ⟨b, o, none⟩ = some (.int .i64 n)) (h0 : 0 ≤ n) (hn : i64ok n) (hl : l.length ≤ 1000000000) :
    Calls Tryz.prog 122 #[.pointer (some ⟨GB, 0, none⟩), .pointer (some ⟨b, o, none⟩), .int .i64 mx] w fun e w' => e = .returned (.tuple #[]) ∧ GWrote wS GB WB sv (l ++ varB n.toNat) w w' := by
  have H := Lib.hid h
  have g0 := h.cells
  obtain ⟨n1, n2⟩ := hn
  obtain ⟨k, rfl⟩ : ∃ k : Nat, n = k := ⟨n.toNat, by omega⟩
  clear h
  go_enter Tryz.func122, Tryz.ntmps122
  go_wp2_with fail
  go_still_tail 8, (by kernel_rfl)
  change wpList _ _ _ _ _ w.drew
  have HD := Lib.hid H.out.drew
  go_wp2_with fail
  refine (var_any w.drew WB sv l HD.out.w1 k (by omega) hl).mono ?_
  rintro e w2 ⟨rfl, hb2⟩
  have HE := Lib.hid ((HD.out.write hb2).after (Keep.drew _ _))
  clear hb2
  go_wp2_with fail
  exact bodyPost_ret (v := .tuple #[]) (by simp [results, Tryz.results122, go_sem]) rfl ⟨rfl, HE.out⟩

set_option maxHeartbeats 4000000 in
theorem whole_any (wS w : World) (GB WB : Nat) (sv : Value) (l : List Int) (h : Gt wS GB WB sv l w) (b o : Nat) (n : Int) (hp : w.cell? ⟨b, o, none⟩ = some (.int .i64 n)) (hn : i64ok n) (hl : l.length ≤ 1000000000) :
    Calls Tryz.prog 189 #[.pointer (some ⟨GB, 0, none⟩), .pointer (some ⟨b, o, none⟩)] w fun e w' => e = .returned (.tuple #[]) ∧ GWrote wS GB WB sv (l ++ intB n) w w' := by
  have H := Lib.hid h
  have g0 := h.cells
  skip
  clear h
  go_enter Tryz.func189, Tryz.ntmps189
  go_wp2_with fail
  go_still_tail 7, (by kernel_rfl)
  change wpList _ _ _ _ _ w.drew
  have HD := Lib.hid H.out.drew
  go_wp2_with fail
  refine (int_any w.drew WB sv l HD.out.w1 n hn hl).mono ?_
  rintro e w2 ⟨rfl, hb2⟩
  have HE := Lib.hid ((HD.out.write hb2).after (Keep.drew _ _))
  clear hb2
  go_wp2_with fail
  exact bodyPost_end (v := .tuple #[]) (by simp [results, Tryz.results189, go_sem]) rfl ⟨rfl, HE.out⟩

set_option maxHeartbeats 4000000 in
theorem octet_any (wS w : World) (GB WB : Nat) (sv : Value) (l : List Int) (h : Gt wS GB WB sv l w) (b o : Nat) (n : Int) (hp : w.cell? ⟨b, o, none⟩ = some (.int .u8 n)) (hl : l.length ≤ 1000000000) :
    Calls Tryz.prog 188 #[.pointer (some ⟨GB, 0, none⟩), .pointer (some ⟨b, o, none⟩)] w fun e w' => e = .returned (.tuple #[]) ∧ GWrote wS GB WB sv (l ++ [n]) w w' := by
  have H := Lib.hid h
  have g0 := h.cells
  skip
  clear h
  go_enter Tryz.func188, Tryz.ntmps188
  go_wp2_with fail
  go_still_tail 7, (by kernel_rfl)
  change wpList _ _ _ _ _ w.drew
  have HD := Lib.hid H.out.drew
  go_wp2_with fail
  refine (byte_any w.drew WB sv l HD.out.w1 n hl).mono ?_
  rintro e w2 ⟨rfl, hb2⟩
  have HE := Lib.hid ((HD.out.write hb2).after (Keep.drew _ _))
  clear hb2
  go_wp2_with fail
  exact bodyPost_end (v := .tuple #[]) (by simp [results, Tryz.results188, go_sem]) rfl ⟨rfl, HE.out⟩

set_option maxHeartbeats 4000000 in
theorem gpoint_any (wS w : World) (GB WB : Nat) (sv : Value) (l : List Int) (h : Gt wS GB WB sv l w) (b o : Nat) (x y : Int) (hp : w.cell? ⟨b, o, none⟩ = some (.int .i16 x) ∧ w.cell? ⟨b, o + 1, none⟩ = some (.int .i16 y)) (hx : i16ok x) (hy : i16ok y) (hl : l.length ≤ 1000000000) :
    Calls Tryz.prog 187 #[.pointer (some ⟨GB, 0, none⟩), .pointer (some ⟨b, o, none⟩)] w fun e w' => e = .returned (.tuple #[]) ∧ GWrote wS GB WB sv (l ++ pointB x y) w w' := by
  have H := Lib.hid h
  have g0 := h.cells
  obtain ⟨p0, p1⟩ := hp
  clear h
  go_enter Tryz.func187, Tryz.ntmps187
  go_wp2_with fail
  go_still_tail 7, (by kernel_rfl)
  change wpList _ _ _ _ _ w.drew
  have HD := Lib.hid H.out.drew
  go_wp2_with fail
  refine (point_any w.drew WB sv l HD.out.w1 x y hx hy hl).mono ?_
  rintro e w2 ⟨rfl, hb2⟩
  have HE := Lib.hid ((HD.out.write hb2).after (Keep.drew _ _))
  clear hb2
  go_wp2_with fail
  exact bodyPost_end (v := .tuple #[]) (by simp [results, Tryz.results187, go_sem]) rfl ⟨rfl, HE.out⟩

set_option maxHeartbeats 4000000 in
theorem gid_any (wS w : World) (GB WB : Nat) (sv : Value) (l : List Int) (h : Gt wS GB WB sv l w) (b o : Nat) (x0 x1 x2 x3 x4 x5 x6 x7 : Int) (hp : w.cell? ⟨b, o, none⟩ = some (.int .u8 x0) ∧ w.cell? ⟨b, o + 1, none⟩ = some (.int .u8 x1) ∧ w.cell? ⟨b, o + 2, none⟩ = some (.int .u8 x2) ∧ w.cell? ⟨b, o + 3, none⟩ = some (.int .u8 x3) ∧ w.cell? ⟨b, o + 4, none⟩ = some (.int .u8 x4) ∧ w.cell? ⟨b, o + 5, none⟩ = some (.int .u8 x5) ∧ w.cell? ⟨b, o + 6, none⟩ = some (.int .u8 x6) ∧ w.cell? ⟨b, o + 7, none⟩ = some (.int .u8 x7)) (hl : l.length ≤ 1000000000) :
    Calls Tryz.prog 186 #[.pointer (some ⟨GB, 0, none⟩), .pointer (some ⟨b, o, none⟩)] w fun e w' => e = .returned (.tuple #[]) ∧ GWrote wS GB WB sv (l ++ [x0, x1, x2, x3, x4, x5, x6, x7]) w w' := by
  have H := Lib.hid h
  have g0 := h.cells
  obtain ⟨p0, p1, p2, p3, p4, p5, p6, p7⟩ := hp
  clear h
  go_enter Tryz.func186, Tryz.ntmps186
  go_wp2_with fail
  go_still_tail 7, (by kernel_rfl)
  change wpList _ _ _ _ _ w.drew
  have HD := Lib.hid H.out.drew
  go_wp2_with fail
  refine (wid_any w.drew WB sv l HD.out.w1 x0 x1 x2 x3 x4 x5 x6 x7 hl).mono ?_
  rintro e w2 ⟨rfl, hb2⟩
  have HE := Lib.hid ((HD.out.write hb2).after (Keep.drew _ _))
  clear hb2
  go_wp2_with fail
  exact bodyPost_end (v := .tuple #[]) (by simp [results, Tryz.results186, go_sem]) rfl ⟨rfl, HE.out⟩
end Go.Proofs.YtcaicgipibcicaaGreat

/- The journal's gate: a request's fields. Printed by wip/gengate2.py. -/
namespace Go.Proofs.YtcaicgipibcicaaGreat
set_option maxRecDepth 100000
set_option linter.unusedVariables false
set_option linter.unusedSimpArgs false
open Go.RowKit Go.Sort

theorem ptr_cell {w : World} {H : Nat} {v : Value} {t : TypeId} (h : w.heap[H]? = some (.cells #[v] t (0, 0))) : w.cell? ⟨H, 0, none⟩ = some v := by
  rw [cell_of_row w H _ _ t (0, 0) h]; rfl
theorem fields_any (w : World) (p q : Value) (hp : ∃ a, p = .pointer a) (hq : ∃ a, q = .pointer a) :
    Calls Tryz.prog 185 #[p, q] w fun e w' => e = .returned (.slice (some ⟨w.heap.size + 1 + 1, 0, none⟩) 7 7) ∧ w' = ((w.alloc (.cells #[p] 142)).alloc (.cells #[q] 261)).alloc (.cells #[.func (.func 202) #[] #[.pointer (some ⟨w.heap.size, 0, none⟩), .pointer (some ⟨w.heap.size + 1, 0, none⟩)], .func (.func 203) #[] #[.pointer (some ⟨w.heap.size, 0, none⟩), .pointer (some ⟨w.heap.size + 1, 0, none⟩)], .func (.func 204) #[] #[.pointer (some ⟨w.heap.size, 0, none⟩), .pointer (some ⟨w.heap.size + 1, 0, none⟩)], .func (.func 205) #[] #[.pointer (some ⟨w.heap.size, 0, none⟩), .pointer (some ⟨w.heap.size + 1, 0, none⟩)], .func (.func 206) #[] #[.pointer (some ⟨w.heap.size, 0, none⟩), .pointer (some ⟨w.heap.size + 1, 0, none⟩)], .func (.func 207) #[] #[.pointer (some ⟨w.heap.size, 0, none⟩), .pointer (some ⟨w.heap.size + 1, 0, none⟩)], .func (.func 208) #[] #[.pointer (some ⟨w.heap.size, 0, none⟩), .pointer (some ⟨w.heap.size + 1, 0, none⟩)]] 1) := by
  have hmf : ∀ (fn : Fn) (first cap : Array Value) (w : World), (Instr.makeFunc fn first cap).run Tryz.prog w = .ok (.func fn first cap) w := fun _ _ _ _ => rfl
  obtain ⟨p, rfl⟩ := hp
  obtain ⟨q, rfl⟩ := hq
  go_enter Tryz.func185, Tryz.ntmps185
  go_wp2_with fail
  go_ret
  exact ⟨rfl, rfl⟩

set_option maxHeartbeats 4000000 in
theorem field1_any (wS w : World) (GB WB : Nat) (sv : Value) (l : List Int) (h : Gt wS GB WB sv l w) (B0 B1 b o : Nat) (h0 : w.heap[B0]? = some (.cells #[.pointer (some ⟨GB, 0, none⟩)] 142 (0, 0))) (h1 : w.heap[B1]? = some (.cells #[.pointer (some ⟨b, o, none⟩)] 261 (0, 0)))
    (x : PReq) (hx : x.Ok) (hp : ∀ j u, x.cells[j]? = some u → w.cell? ⟨b, o + j, none⟩ = some u) (hl : l.length ≤ 1000000000) :
    Calls Tryz.prog 202 #[.pointer (some ⟨B0, 0, none⟩), .pointer (some ⟨B1, 0, none⟩)] w fun e w' => e = .returned (.tuple #[]) ∧ GWrote wS GB WB sv (l ++ [x.i0, x.i1, x.i2, x.i3, x.i4, x.i5, x.i6, x.i7]) w w' := by
  have H := Lib.hid h
  have HP := Lib.hid hp
  have HX := Lib.hid hx
  have p0 := ptr_cell h0
  have p1 := ptr_cell h1
  clear h h0 h1 hp hx
  go_enter Tryz.func202, Tryz.ntmps202
  go_still_tail 4, (by kernel_rfl)
  change wpList _ _ _ _ _ w.drew
  have HD := Lib.hid H.out.drew
  go_wp2_with fail
  refine (gid_any wS w.drew GB WB sv l HD.out b o x.i0 x.i1 x.i2 x.i3 x.i4 x.i5 x.i6 x.i7 ⟨(HP.out 0 _ rfl), (HP.out 1 _ rfl), (HP.out 2 _ rfl), (HP.out 3 _ rfl), (HP.out 4 _ rfl), (HP.out 5 _ rfl), (HP.out 6 _ rfl), (HP.out 7 _ rfl)⟩ hl).mono ?_
  rintro e w2 ⟨rfl, hb2⟩
  have HE := Lib.hid (hb2.after (Keep.drew _ _))
  clear hb2
  go_wp2_with fail
  exact bodyPost_end (v := .tuple #[]) (by simp [results, Tryz.results202, go_sem]) rfl ⟨rfl, HE.out⟩

set_option maxHeartbeats 4000000 in
theorem field2_any (wS w : World) (GB WB : Nat) (sv : Value) (l : List Int) (h : Gt wS GB WB sv l w) (B0 B1 b o : Nat) (h0 : w.heap[B0]? = some (.cells #[.pointer (some ⟨GB, 0, none⟩)] 142 (0, 0))) (h1 : w.heap[B1]? = some (.cells #[.pointer (some ⟨b, o, none⟩)] 261 (0, 0)))
    (x : PReq) (hx : x.Ok) (hp : ∀ j u, x.cells[j]? = some u → w.cell? ⟨b, o + j, none⟩ = some u) (hl : l.length ≤ 1000000000) :
    Calls Tryz.prog 203 #[.pointer (some ⟨B0, 0, none⟩), .pointer (some ⟨B1, 0, none⟩)] w fun e w' => e = .returned (.tuple #[]) ∧ GWrote wS GB WB sv (l ++ pointB x.fx x.fy) w w' := by
  have H := Lib.hid h
  have HP := Lib.hid hp
  have HX := Lib.hid hx
  have p0 := ptr_cell h0
  have p1 := ptr_cell h1
  clear h h0 h1 hp hx
  go_enter Tryz.func203, Tryz.ntmps203
  go_still_tail 4, (by kernel_rfl)
  change wpList _ _ _ _ _ w.drew
  have HD := Lib.hid H.out.drew
  go_wp2_with fail
  refine (gpoint_any wS w.drew GB WB sv l HD.out b (o + 8) x.fx x.fy ⟨(HP.out 8 _ rfl), (HP.out 9 _ rfl)⟩ HX.out.from_.1 HX.out.from_.2 hl).mono ?_
  rintro e w2 ⟨rfl, hb2⟩
  have HE := Lib.hid (hb2.after (Keep.drew _ _))
  clear hb2
  go_wp2_with fail
  exact bodyPost_end (v := .tuple #[]) (by simp [results, Tryz.results203, go_sem]) rfl ⟨rfl, HE.out⟩

set_option maxHeartbeats 4000000 in
theorem field3_any (wS w : World) (GB WB : Nat) (sv : Value) (l : List Int) (h : Gt wS GB WB sv l w) (B0 B1 b o : Nat) (h0 : w.heap[B0]? = some (.cells #[.pointer (some ⟨GB, 0, none⟩)] 142 (0, 0))) (h1 : w.heap[B1]? = some (.cells #[.pointer (some ⟨b, o, none⟩)] 261 (0, 0)))
    (x : PReq) (hx : x.Ok) (hp : ∀ j u, x.cells[j]? = some u → w.cell? ⟨b, o + j, none⟩ = some u) (hl : l.length ≤ 1000000000) :
    Calls Tryz.prog 204 #[.pointer (some ⟨B0, 0, none⟩), .pointer (some ⟨B1, 0, none⟩)] w fun e w' => e = .returned (.tuple #[]) ∧ GWrote wS GB WB sv (l ++ pointB x.tx x.ty) w w' := by
  have H := Lib.hid h
  have HP := Lib.hid hp
  have HX := Lib.hid hx
  have p0 := ptr_cell h0
  have p1 := ptr_cell h1
  clear h h0 h1 hp hx
  go_enter Tryz.func204, Tryz.ntmps204
  go_still_tail 4, (by kernel_rfl)
  change wpList _ _ _ _ _ w.drew
  have HD := Lib.hid H.out.drew
  go_wp2_with fail
  refine (gpoint_any wS w.drew GB WB sv l HD.out b (o + 10) x.tx x.ty ⟨(HP.out 10 _ rfl), (HP.out 11 _ rfl)⟩ HX.out.to_.1 HX.out.to_.2 hl).mono ?_
  rintro e w2 ⟨rfl, hb2⟩
  have HE := Lib.hid (hb2.after (Keep.drew _ _))
  clear hb2
  go_wp2_with fail
  exact bodyPost_end (v := .tuple #[]) (by simp [results, Tryz.results204, go_sem]) rfl ⟨rfl, HE.out⟩

set_option maxHeartbeats 4000000 in
theorem field4_any (wS w : World) (GB WB : Nat) (sv : Value) (l : List Int) (h : Gt wS GB WB sv l w) (B0 B1 b o : Nat) (h0 : w.heap[B0]? = some (.cells #[.pointer (some ⟨GB, 0, none⟩)] 142 (0, 0))) (h1 : w.heap[B1]? = some (.cells #[.pointer (some ⟨b, o, none⟩)] 261 (0, 0)))
    (x : PReq) (hx : x.Ok) (hp : ∀ j u, x.cells[j]? = some u → w.cell? ⟨b, o + j, none⟩ = some u) (hl : l.length ≤ 1000000000) :
    Calls Tryz.prog 205 #[.pointer (some ⟨B0, 0, none⟩), .pointer (some ⟨B1, 0, none⟩)] w fun e w' => e = .returned (.tuple #[]) ∧ GWrote wS GB WB sv (l ++ [x.seats]) w w' := by
  have H := Lib.hid h
  have HP := Lib.hid hp
  have HX := Lib.hid hx
  have p0 := ptr_cell h0
  have p1 := ptr_cell h1
  clear h h0 h1 hp hx
  go_enter Tryz.func205, Tryz.ntmps205
  go_still_tail 4, (by kernel_rfl)
  change wpList _ _ _ _ _ w.drew
  have HD := Lib.hid H.out.drew
  go_wp2_with fail
  refine (octet_any wS w.drew GB WB sv l HD.out b (o + 12) x.seats (HP.out 12 _ rfl) hl).mono ?_
  rintro e w2 ⟨rfl, hb2⟩
  have HE := Lib.hid (hb2.after (Keep.drew _ _))
  clear hb2
  go_wp2_with fail
  exact bodyPost_end (v := .tuple #[]) (by simp [results, Tryz.results205, go_sem]) rfl ⟨rfl, HE.out⟩

set_option maxHeartbeats 4000000 in
theorem field5_any (wS w : World) (GB WB : Nat) (sv : Value) (l : List Int) (h : Gt wS GB WB sv l w) (B0 B1 b o : Nat) (h0 : w.heap[B0]? = some (.cells #[.pointer (some ⟨GB, 0, none⟩)] 142 (0, 0))) (h1 : w.heap[B1]? = some (.cells #[.pointer (some ⟨b, o, none⟩)] 261 (0, 0)))
    (x : PReq) (hx : x.Ok) (hp : ∀ j u, x.cells[j]? = some u → w.cell? ⟨b, o + j, none⟩ = some u) (hl : l.length ≤ 1000000000) :
    Calls Tryz.prog 206 #[.pointer (some ⟨B0, 0, none⟩), .pointer (some ⟨B1, 0, none⟩)] w fun e w' => e = .returned (.tuple #[]) ∧ GWrote wS GB WB sv (l ++ [x.classes]) w w' := by
  have H := Lib.hid h
  have HP := Lib.hid hp
  have HX := Lib.hid hx
  have p0 := ptr_cell h0
  have p1 := ptr_cell h1
  clear h h0 h1 hp hx
  go_enter Tryz.func206, Tryz.ntmps206
  go_still_tail 4, (by kernel_rfl)
  change wpList _ _ _ _ _ w.drew
  have HD := Lib.hid H.out.drew
  go_wp2_with fail
  refine (octet_any wS w.drew GB WB sv l HD.out b (o + 13) x.classes (HP.out 13 _ rfl) hl).mono ?_
  rintro e w2 ⟨rfl, hb2⟩
  have HE := Lib.hid (hb2.after (Keep.drew _ _))
  clear hb2
  go_wp2_with fail
  exact bodyPost_end (v := .tuple #[]) (by simp [results, Tryz.results206, go_sem]) rfl ⟨rfl, HE.out⟩

set_option maxHeartbeats 4000000 in
theorem field6_any (wS w : World) (GB WB : Nat) (sv : Value) (l : List Int) (h : Gt wS GB WB sv l w) (B0 B1 b o : Nat) (h0 : w.heap[B0]? = some (.cells #[.pointer (some ⟨GB, 0, none⟩)] 142 (0, 0))) (h1 : w.heap[B1]? = some (.cells #[.pointer (some ⟨b, o, none⟩)] 261 (0, 0)))
    (x : PReq) (hx : x.Ok) (hp : ∀ j u, x.cells[j]? = some u → w.cell? ⟨b, o + j, none⟩ = some u) (hl : l.length ≤ 1000000000) :
    Calls Tryz.prog 207 #[.pointer (some ⟨B0, 0, none⟩), .pointer (some ⟨B1, 0, none⟩)] w fun e w' => e = .returned (.tuple #[]) ∧ GWrote wS GB WB sv (l ++ intB x.base) w w' := by
  have H := Lib.hid h
  have HP := Lib.hid hp
  have HX := Lib.hid hx
  have p0 := ptr_cell h0
  have p1 := ptr_cell h1
  clear h h0 h1 hp hx
  go_enter Tryz.func207, Tryz.ntmps207
  go_still_tail 4, (by kernel_rfl)
  change wpList _ _ _ _ _ w.drew
  have HD := Lib.hid H.out.drew
  go_wp2_with fail
  refine (whole_any wS w.drew GB WB sv l HD.out b (o + 14) x.base (HP.out 14 _ rfl) HX.out.base hl).mono ?_
  rintro e w2 ⟨rfl, hb2⟩
  have HE := Lib.hid (hb2.after (Keep.drew _ _))
  clear hb2
  go_wp2_with fail
  exact bodyPost_end (v := .tuple #[]) (by simp [results, Tryz.results207, go_sem]) rfl ⟨rfl, HE.out⟩

set_option maxHeartbeats 4000000 in
theorem field7_any (wS w : World) (GB WB : Nat) (sv : Value) (l : List Int) (h : Gt wS GB WB sv l w) (B0 B1 b o : Nat) (h0 : w.heap[B0]? = some (.cells #[.pointer (some ⟨GB, 0, none⟩)] 142 (0, 0))) (h1 : w.heap[B1]? = some (.cells #[.pointer (some ⟨b, o, none⟩)] 261 (0, 0)))
    (x : PReq) (hx : x.Ok) (hp : ∀ j u, x.cells[j]? = some u → w.cell? ⟨b, o + j, none⟩ = some u) (hl : l.length ≤ 1000000000) :
    Calls Tryz.prog 208 #[.pointer (some ⟨B0, 0, none⟩), .pointer (some ⟨B1, 0, none⟩)] w fun e w' => e = .returned (.tuple #[]) ∧ GWrote wS GB WB sv (l ++ intB x.ttl) w w' := by
  have H := Lib.hid h
  have HP := Lib.hid hp
  have HX := Lib.hid hx
  have p0 := ptr_cell h0
  have p1 := ptr_cell h1
  clear h h0 h1 hp hx
  go_enter Tryz.func208, Tryz.ntmps208
  go_still_tail 4, (by kernel_rfl)
  change wpList _ _ _ _ _ w.drew
  have HD := Lib.hid H.out.drew
  go_wp2_with fail
  refine (whole_any wS w.drew GB WB sv l HD.out b (o + 15) x.ttl (HP.out 15 _ rfl) HX.out.ttl hl).mono ?_
  rintro e w2 ⟨rfl, hb2⟩
  have HE := Lib.hid (hb2.after (Keep.drew _ _))
  clear hb2
  go_wp2_with fail
  exact bodyPost_end (v := .tuple #[]) (by simp [results, Tryz.results208, go_sem]) rfl ⟨rfl, HE.out⟩
end Go.Proofs.YtcaicgipibcicaaGreat
