/- Chapter 16 in the program: small sums, what a pair is worth. -/
import Derived.Test.YtcaicgipibcicaaGreatQWr
import Derived.Test.YtcaicgipibcicaaGreatQVals
import Derived.Test.YtcaicgipibcicaaGreatQCertF
import Derived.Test.YtcaicgipibcicaaGreatQRFit3
import Derived.Laws.Externs
namespace Go.Proofs.YtcaicgipibcicaaGreat
set_option maxRecDepth 100000
set_option linter.unusedVariables false
set_option linter.unusedSimpArgs false
open Go.RowKit Go.Sort

theorem add64_small (x y : Int) (hx : 0 ≤ x) (hy : 0 ≤ y) (hs : x + y ≤ 9223372036854775807) (w : World) :
    (callFunc 193 #[.int .u64 x, .int .u64 y, .int .u64 0]).run Tryz.prog w = .ok (.value (.tuple #[.int .u64 (x + y), .int .u64 0])) w := by
  rw [run_callFunc_extern Tryz.func193 (by kernel_rfl) (by kernel_rfl) (by kernel_rfl) (e := add64Entry) (by kernel_rfl), run_add64 x y 0 hx hy (by omega) (by omega)]
  rw [show (x + y + 0) % 18446744073709551616 = x + y by omega, show (x + y + 0) / 18446744073709551616 = 0 by omega]
  rfl
theorem sum_nonneg {l : List Int} (h : ∀ x ∈ l, 0 ≤ x) : 0 ≤ l.sum := by
  induction l with
  | nil => simp
  | cons a l ih => have h1 := h a (by simp); have h2 := ih (fun x hx => h x (by simp [hx])); simp only [List.sum_cons]; omega
theorem sum_take_next {l : List Int} {j : Nat} {x : Int} (hx : l[j]? = some x) : (l.take (j + 1)).sum = (l.take j).sum + x := by
  rw [List.take_succ_eq_append_getElem (List.getElem?_eq_some_iff.1 hx).1, (List.getElem?_eq_some_iff.1 hx).2]
  simp
theorem sum_parts {l : List Int} (hp : ∀ x ∈ l, 0 ≤ x) (hs : l.sum ≤ 4611686018427387903) {j : Nat} {x : Int} (hx : l[j]? = some x) : x ≤ 4611686018427387903 ∧ 0 ≤ (l.take j).sum ∧ (l.take j).sum + x ≤ 4611686018427387903 := by
  have h0 := sum_nonneg (l := l.take j) (fun y hy => hp y (List.mem_of_mem_take hy))
  have h1 := sum_nonneg (l := l.drop (j + 1)) (fun y hy => hp y (List.mem_of_mem_drop hy))
  have h2 := sum_take_next hx
  have h3 : l.sum = (l.take (j + 1)).sum + (l.drop (j + 1)).sum := by rw [← List.sum_append, List.take_append_drop]
  have h4 := hp x (List.mem_of_getElem? hx)
  omega

set_option maxHeartbeats 4000000 in
theorem sum_small (w : World) (b n c : Nat) (l : List Int) (hl : l.length = n) (hr : RdC w (some ⟨b, 0, none⟩) (cellsOf icell l)) (hn : n ≤ 9007199254740992) (hp : ∀ x ∈ l, 0 ≤ x) (hs : l.sum ≤ 4611686018427387903) :
    Calls Tryz.prog 173 #[.slice (some ⟨b, 0, none⟩) n c] w fun e w' => e = .returned (.tuple #[.int .i64 l.sum, .bool true]) ∧ w = w' := by
  have HL := Lib.hid hl
  have HR := Lib.hid hr
  have HP := Lib.hid hp
  have HS := Lib.hid hs
  clear hl hr hp hs
  go_enter Tryz.func173, Tryz.ntmps173
  go_wp2_with fail
  go_loop [4, 5, 12] (fun a v i => Hid (∃ j : Nat, a = .int .u64 0 ∧ v = .int .u64 (l.take j).sum ∧ i = .int .i64 j ∧ j ≤ n)) (fun _ _ i => n - (intOf i).toNat)
  case atStart => exact Lib.hid ⟨0, rfl, rfl, rfl, Nat.zero_le _⟩
  case round =>
    obtain ⟨j, rfl, rfl, rfl, hj⟩ := hrel.out
    clear hrel
    by_cases hlt : j < n
    · obtain ⟨x, hx⟩ : ∃ x, l[j]? = some x := ⟨l[j]'(by rw [HL.out]; exact hlt), List.getElem?_eq_getElem _⟩
      have hc := int_at0 HR.out hx
      have hx0 := HP.out x (List.mem_of_getElem? hx)
      have HX := Lib.hid hx
      clear hx
      obtain ⟨hx1, hx2, hx3⟩ := sum_parts HP.out HS.out HX.out
      have HT := Lib.hid (sum_take_next HX.out)
      generalize (l.take j).sum = s at *
      go_wp2_with fail
      refine (is_small _ x hx0 hx1).mono ?_
      rintro e w1 ⟨rfl, rfl⟩
      have hadd := add64_small s x hx2 hx0 (by omega)
      have hsh : x / 9223372036854775808 = 0 := by omega
      go_wp2_with fail
      go_round
      case rel => exact Lib.hid ⟨j + 1, rfl, by rw [HT.out], by go_num, by omega⟩
      case measure => simp [intOf]; omega
    · obtain rfl : n = j := by omega
      have HFULL := Lib.hid (show (l.take n).sum = l.sum by rw [List.take_of_length_le (by rw [HL.out]; exact Nat.le_refl _)])
      have h1 : 0 ≤ l.sum := sum_nonneg HP.out
      have h2 := HS.out
      rw [HFULL.out]
      obtain ⟨s, hsm⟩ : ∃ s, l.sum = s := ⟨_, rfl⟩
      rw [hsm] at h1 h2 ⊢
      have HSM := Lib.hid hsm
      clear hsm
      have hsh : s / 9223372036854775808 = 0 := by omega
      go_wp2_with fail
      refine (is_small _ s h1 h2).mono ?_
      rintro e w1 ⟨rfl, rfl⟩
      go_wp2_with fail
      go_ret2
      exact ⟨by rw [HSM.out]; rfl, rfl⟩
end Go.Proofs.YtcaicgipibcicaaGreat

/- Chapter 13 in the reference: requests that may be. -/
namespace Go.Proofs.YtcaicgipibcicaaGreat
set_option maxRecDepth 100000
set_option linter.unusedVariables false
set_option linter.unusedSimpArgs false
open Go.RowKit Go.Sort

set_option maxHeartbeats 2000000 in
theorem rmay_any (w : World) (c : PConf) (r : PReq) (hr : r.Ok) : Calls Tryz.prog 133 #[.agg #[.int .i64 c.q, .int .i64 c.d, .int .i64 c.w, .int .i64 c.ttl, .int .i64 c.b], .agg #[.int .u8 r.i0, .int .u8 r.i1, .int .u8 r.i2, .int .u8 r.i3, .int .u8 r.i4, .int .u8 r.i5, .int .u8 r.i6, .int .u8 r.i7, .int .i16 r.fx, .int .i16 r.fy, .int .i16 r.tx, .int .i16 r.ty, .int .u8 r.seats, .int .u8 r.classes, .int .i64 r.base, .int .i64 r.ttl]] w fun e w' => e = .returned (.bool (mayF c r)) ∧ Below w.heap.size w w' := by
  have HB := Lib.hid (((Below.refl w.heap.size w).alloc (Nat.le_refl _) (.cells #[.int .i64 c.q, .int .i64 c.d, .int .i64 c.w, .int .i64 c.ttl, .int .i64 c.b] 23)).alloc (by simp) (.cells #[.int .u8 r.i0, .int .u8 r.i1, .int .u8 r.i2, .int .u8 r.i3, .int .u8 r.i4, .int .u8 r.i5, .int .u8 r.i6, .int .u8 r.i7, .int .i16 r.fx, .int .i16 r.fy, .int .i16 r.tx, .int .i16 r.ty, .int .u8 r.seats, .int .u8 r.classes, .int .i64 r.base, .int .i64 r.ttl] 77))
  obtain ⟨s1, s2⟩ := hr.seats
  obtain ⟨s3, s4⟩ := hr.classes
  clear hr
  by_cases a1 : r.seats ≤ 0
  · have HM := Lib.hid (show mayF c r = false by
      have : r.seats = 0 := by omega
      simp [mayF, this])
    go_enter Tryz.func133, Tryz.ntmps133
    go_wp2_with fail
    go_ret
    exact ⟨by rw [HM.out]; rfl, HB.out⟩
  have a1' : 0 < r.seats := by omega
  have H1 := Lib.hid (show decide (r.seats ≠ 0) = true by simp; omega)
  clear a1
  by_cases a2 : r.classes ≤ 0
  · have HM := Lib.hid (show mayF c r = false by
      have : r.classes = 0 := by omega
      simp [mayF, this])
    go_enter Tryz.func133, Tryz.ntmps133
    go_wp2_with fail
    go_ret
    exact ⟨by rw [HM.out]; rfl, HB.out⟩
  have a2' : 0 < r.classes := by omega
  have H2 := Lib.hid (show decide (r.classes ≠ 0) = true by simp; omega)
  clear a2
  go_enter Tryz.func133, Tryz.ntmps133
  go_wp2_with fail
  refine (within_any _ _ _ _).mono ?_
  rintro e w1 ⟨rfl, rfl⟩
  cases h3 : decide (0 ≤ r.base ∧ r.base ≤ c.b) with
  | false =>
    have HM := Lib.hid (show mayF c r = false by simp only [mayF, h3, H2.out, H1.out]; rfl)
    clear h3
    go_wp2_with fail
    go_ret
    exact ⟨by rw [HM.out]; rfl, HB.out⟩
  | true =>
    have HM := Lib.hid (show mayF c r = decide (1 ≤ r.ttl ∧ r.ttl ≤ c.ttl) by simp only [mayF, h3, H2.out, H1.out, Bool.true_and, amongF])
    clear h3
    go_wp2_with fail
    refine (within_any _ _ _ _).mono ?_
    rintro e w1 ⟨rfl, rfl⟩
    generalize decide (1 ≤ r.ttl ∧ r.ttl ≤ c.ttl) = B at *
    go_wp2_with fail
    go_ret
    exact ⟨by rw [HM.out]; rfl, HB.out⟩

set_option maxHeartbeats 2000000 in
theorem rcheck_any (w : World) (c : PConf) (r : PReq) (hr : r.Ok) : Calls Tryz.prog 96 #[.agg #[.int .i64 c.q, .int .i64 c.d, .int .i64 c.w, .int .i64 c.ttl, .int .i64 c.b], .agg #[.int .u8 r.i0, .int .u8 r.i1, .int .u8 r.i2, .int .u8 r.i3, .int .u8 r.i4, .int .u8 r.i5, .int .u8 r.i6, .int .u8 r.i7, .int .i16 r.fx, .int .i16 r.fy, .int .i16 r.tx, .int .i16 r.ty, .int .u8 r.seats, .int .u8 r.classes, .int .i64 r.base, .int .i64 r.ttl]] w fun e w' => e = .returned (.int .i64 (checkE c r)) ∧ Below w.heap.size w w' := by
  have HB := Lib.hid (((Below.refl w.heap.size w).alloc (Nat.le_refl _) (.cells #[.int .i64 c.q, .int .i64 c.d, .int .i64 c.w, .int .i64 c.ttl, .int .i64 c.b] 23)).alloc (by simp) (.cells #[.int .u8 r.i0, .int .u8 r.i1, .int .u8 r.i2, .int .u8 r.i3, .int .u8 r.i4, .int .u8 r.i5, .int .u8 r.i6, .int .u8 r.i7, .int .i16 r.fx, .int .i16 r.fy, .int .i16 r.tx, .int .i16 r.ty, .int .u8 r.seats, .int .u8 r.classes, .int .i64 r.base, .int .i64 r.ttl] 77))
  have HMAY := Lib.hid (fun w => rmay_any w c r hr)
  go_enter Tryz.func96, Tryz.ntmps96
  go_wp2_with fail
  have hz : (w.alloc (.cells #[.int .i64 c.q, .int .i64 c.d, .int .i64 c.w, .int .i64 c.ttl, .int .i64 c.b] 23)).heap.size = w.heap.size + 1 := by simp
  have hh0 := (Keep.alloc (fun _ => False) (w.alloc (.cells #[.int .i64 c.q, .int .i64 c.d, .int .i64 c.w, .int .i64 c.ttl, .int .i64 c.b] 23)) (.cells #[.int .u8 r.i0, .int .u8 r.i1, .int .u8 r.i2, .int .u8 r.i3, .int .u8 r.i4, .int .u8 r.i5, .int .u8 r.i6, .int .u8 r.i7, .int .i16 r.fx, .int .i16 r.fy, .int .i16 r.tx, .int .i16 r.ty, .int .u8 r.seats, .int .u8 r.classes, .int .i64 r.base, .int .i64 r.ttl] 77)).old (heap_alloc_new w (.cells #[.int .i64 c.q, .int .i64 c.d, .int .i64 c.w, .int .i64 c.ttl, .int .i64 c.b] 23)) id
  have hh1 := heap_alloc_new (w.alloc (.cells #[.int .i64 c.q, .int .i64 c.d, .int .i64 c.w, .int .i64 c.ttl, .int .i64 c.b] 23)) (.cells #[.int .u8 r.i0, .int .u8 r.i1, .int .u8 r.i2, .int .u8 r.i3, .int .u8 r.i4, .int .u8 r.i5, .int .u8 r.i6, .int .u8 r.i7, .int .i16 r.fx, .int .i16 r.fy, .int .i16 r.tx, .int .i16 r.ty, .int .u8 r.seats, .int .u8 r.classes, .int .i64 r.base, .int .i64 r.ttl] 77)
  rw [hz] at hh1
  have H0 := Lib.hid hh0
  have H1 := Lib.hid hh1
  clear hz hh0 hh1
  generalize (w.alloc (.cells #[.int .i64 c.q, .int .i64 c.d, .int .i64 c.w, .int .i64 c.ttl, .int .i64 c.b] 23)).alloc (.cells #[.int .u8 r.i0, .int .u8 r.i1, .int .u8 r.i2, .int .u8 r.i3, .int .u8 r.i4, .int .u8 r.i5, .int .u8 r.i6, .int .u8 r.i7, .int .i16 r.fx, .int .i16 r.fy, .int .i16 r.tx, .int .i16 r.ty, .int .u8 r.seats, .int .u8 r.classes, .int .i64 r.base, .int .i64 r.ttl] 77) = W at *
  generalize w.heap.size + 1 = H2 at *
  refine (rconfig_any W c).mono ?_
  rintro e w1 ⟨rfl, hb1⟩
  have hk1 := Keep.of_below hb1 (Nat.le_refl _) (fun _ => False)
  have g0 := hk1.old H0.out id
  have g1 := hk1.old H1.out id
  have HB1 := Lib.hid (below_two HB.out hb1)
  obtain ⟨k0, k1, k2, k3, k4⟩ := conf_blk g0
  obtain ⟨j0, j1, j2, j3, j4, j5, j6, j7, j8, j9, j10, j11, j12, j13, j14, j15⟩ := req_blk g1
  clear hb1 hk1 g0 g1
  cases hc : configF c with
  | false =>
    have he : checkE c r = 160 := by simp [checkE, hc]
    have HE := Lib.hid he
    have hce : configE c = 160 := by simp [configE, hc]
    rw [hce]
    clear he hce hc
    go_wp2_with fail
    go_ret
    exact ⟨by rw [HE.out]; rfl, HB1.out⟩
  | true =>
    have he : checkE c r = if mayF c r then 0 else 1 := by simp [checkE, hc]
    have HE := Lib.hid he
    have hce : configE c = 0 := by simp [configE, hc]
    rw [hce]
    clear he hce hc
    go_wp2_with fail
    refine (HMAY.out w1).mono ?_
    rintro e w2 ⟨rfl, hb2⟩
    have HB2 := Lib.hid (below_two HB1.out hb2)
    clear hb2
    cases h5 : mayF c r with
    | false =>
      go_wp2_with fail
      go_ret
      exact ⟨by rw [HE.out, h5]; rfl, HB2.out⟩
    | true =>
      go_wp2_with fail
      go_ret
      exact ⟨by rw [HE.out, h5]; rfl, HB2.out⟩
end Go.Proofs.YtcaicgipibcicaaGreat

/- Chapter 16: what a pair is worth, in the program. -/
namespace Go.Proofs.YtcaicgipibcicaaGreat
set_option maxRecDepth 100000
set_option linter.unusedVariables false
set_option linter.unusedSimpArgs false
open Go.RowKit Go.Sort

/-- The weight of one who waits, and the error. -/
def wtP (c : PConf) (now : Int) (w : PWait) : Int × Int := weightE c now w (checkE c w.r)
theorem wtP_check {c : PConf} {now : Int} {w : PWait} (h : checkE c w.r ≠ 0) : wtP c now w = (0, checkE c w.r) := by simp only [wtP, weightE, if_pos h]
theorem wtP_arg {c : PConf} {now : Int} {w : PWait} (h0 : checkE c w.r = 0) (h : ¬ (0 ≤ now ∧ now ≤ 1099511627776 ∧ 0 ≤ w.since ∧ w.since ≤ 1099511627776 ∧ w.since ≤ now)) : wtP c now w = (0, 1) := by
  simp only [wtP, weightE, h0, ne_eq, not_true_eq_false, if_false, if_pos h]
theorem wtP_gone {c : PConf} {now : Int} {w : PWait} (h0 : checkE c w.r = 0) (h : 0 ≤ now ∧ now ≤ 1099511627776 ∧ 0 ≤ w.since ∧ w.since ≤ 1099511627776 ∧ w.since ≤ now) (h1 : w.r.ttl < now - w.since) : wtP c now w = (0, 131) := by
  simp only [wtP, weightE, h0, ne_eq, not_true_eq_false, if_false, if_neg (fun k : ¬ _ => k h), if_pos h1]
theorem wtP_good {c : PConf} {now : Int} {w : PWait} (h0 : checkE c w.r = 0) (h : 0 ≤ now ∧ now ≤ 1099511627776 ∧ 0 ≤ w.since ∧ w.since ≤ 1099511627776 ∧ w.since ≤ now) (h1 : ¬ w.r.ttl < now - w.since) : wtP c now w = ((now - w.since) * (c.b + 1) + w.r.base + 1, 0) := by
  simp only [wtP, weightE, h0, ne_eq, not_true_eq_false, if_false, if_neg (fun k : ¬ _ => k h), if_neg h1]
theorem check_bounds {c : PConf} {r : PReq} (h : checkE c r = 0) : 1 ≤ c.b ∧ c.b ≤ 1048576 ∧ 0 ≤ r.base ∧ r.base ≤ c.b ∧ 1 ≤ r.ttl ∧ r.ttl ≤ c.ttl ∧ c.ttl ≤ 1048576 := by
  unfold checkE at h
  cases hc : configF c with
  | false => simp [hc] at h
  | true =>
    cases hm : mayF c r with
    | false => simp [hc, hm] at h
    | true =>
      unfold configF at hc
      unfold mayF at hm
      simp only [Bool.and_eq_true] at hc hm
      have h1 := of_decide_eq_true hc.2
      have h2 := of_decide_eq_true hc.1.2
      have h3 := of_decide_eq_true hm.2
      have h4 := of_decide_eq_true hm.1.2
      omega
theorem mul_bd {a b : Int} (h1 : 0 ≤ a) (h2 : a ≤ 1048576) (h3 : 0 ≤ b) (h4 : b ≤ 1048577) : 0 ≤ a * b ∧ a * b ≤ 1099512676352 := by
  obtain ⟨x, rfl⟩ := Int.eq_ofNat_of_zero_le h1
  obtain ⟨y, rfl⟩ := Int.eq_ofNat_of_zero_le h3
  have hlt := Nat.mul_le_mul (show x ≤ 1048576 by omega) (show y ≤ 1048577 by omega)
  rw [show ((x : Int) * (y : Int)) = ((x * y : Nat) : Int) by simp]
  omega

/-- A configuration and one who waits, in boxes. -/
structure CwRel (w : World) (c : PConf) (x : PWait) (H0 H1 : Nat) (wr : World) : Prop where
  g : wr.heap[H0]? = some (.cells #[.int .i64 c.q, .int .i64 c.d, .int .i64 c.w, .int .i64 c.ttl, .int .i64 c.b] 23 (0, 0))
  h : wr.heap[H1]? = some (.cells #[.int .u8 x.r.i0, .int .u8 x.r.i1, .int .u8 x.r.i2, .int .u8 x.r.i3, .int .u8 x.r.i4, .int .u8 x.r.i5, .int .u8 x.r.i6, .int .u8 x.r.i7, .int .i16 x.r.fx, .int .i16 x.r.fy, .int .i16 x.r.tx, .int .i16 x.r.ty, .int .u8 x.r.seats, .int .u8 x.r.classes, .int .i64 x.r.base, .int .i64 x.r.ttl, .int .i64 x.since, .int .i64 x.number] 79 (0, 0))
  below : Below w.heap.size w wr
theorem CwRel.keep {w : World} {c : PConf} {x : PWait} {H0 H1 : Nat} {wr w' : World} (h : CwRel w c x H0 H1 wr) (hb : Below wr.heap.size wr w') : CwRel w c x H0 H1 w' :=
  ⟨(Keep.of_below hb (Nat.le_refl _) (fun _ => False)).old h.g id, (Keep.of_below hb (Nat.le_refl _) (fun _ => False)).old h.h id, Below.next h.below hb⟩
theorem CwRel.begin (w : World) (c : PConf) (x : PWait) : CwRel w c x w.heap.size (w.heap.size + 1) ((w.alloc (.cells #[.int .i64 c.q, .int .i64 c.d, .int .i64 c.w, .int .i64 c.ttl, .int .i64 c.b] 23)).alloc (.cells #[.int .u8 x.r.i0, .int .u8 x.r.i1, .int .u8 x.r.i2, .int .u8 x.r.i3, .int .u8 x.r.i4, .int .u8 x.r.i5, .int .u8 x.r.i6, .int .u8 x.r.i7, .int .i16 x.r.fx, .int .i16 x.r.fy, .int .i16 x.r.tx, .int .i16 x.r.ty, .int .u8 x.r.seats, .int .u8 x.r.classes, .int .i64 x.r.base, .int .i64 x.r.ttl, .int .i64 x.since, .int .i64 x.number] 79)) := by
  refine ⟨(Keep.alloc (fun _ => False) _ _).old (heap_alloc_new w _) id, ?_, ((Below.refl w.heap.size w).alloc (Nat.le_refl _) _).alloc (by simp) _⟩
  have := heap_alloc_new (w.alloc (.cells #[.int .i64 c.q, .int .i64 c.d, .int .i64 c.w, .int .i64 c.ttl, .int .i64 c.b] 23)) (.cells #[.int .u8 x.r.i0, .int .u8 x.r.i1, .int .u8 x.r.i2, .int .u8 x.r.i3, .int .u8 x.r.i4, .int .u8 x.r.i5, .int .u8 x.r.i6, .int .u8 x.r.i7, .int .i16 x.r.fx, .int .i16 x.r.fy, .int .i16 x.r.tx, .int .i16 x.r.ty, .int .u8 x.r.seats, .int .u8 x.r.classes, .int .i64 x.r.base, .int .i64 x.r.ttl, .int .i64 x.since, .int .i64 x.number] 79)
  rw [show (w.alloc (.cells #[.int .i64 c.q, .int .i64 c.d, .int .i64 c.w, .int .i64 c.ttl, .int .i64 c.b] 23)).heap.size = w.heap.size + 1 by simp] at this
  exact this
/-- The cells of the two that are looked at. -/
theorem CwRel.cells {w : World} {c : PConf} {x : PWait} {H0 H1 : Nat} {wr : World} (h : CwRel w c x H0 H1 wr) : wr.cell? ⟨H0, 4, none⟩ = some (.int .i64 c.b) ∧ wr.cell? ⟨H1, 14, none⟩ = some (.int .i64 x.r.base) ∧ wr.cell? ⟨H1, 15, none⟩ = some (.int .i64 x.r.ttl) ∧ wr.cell? ⟨H1, 16, none⟩ = some (.int .i64 x.since) := by
  refine ⟨?_, ?_, ?_, ?_⟩
  · rw [cell_of_row wr H0 _ _ _ (0, 0) h.g]; rfl
  all_goals rw [cell_of_row wr H1 _ _ _ (0, 0) h.h]; rfl

theorem RdC.laid (w : World) (cs : Array Value) (t : TypeId) (l : List Value) (h : cs.toList = l) : RdC (w.alloc (.cells cs t)) (some ⟨w.heap.size, 0, none⟩) l := by
  refine .inr ⟨_, 0, rfl, fun j u hu => ?_⟩
  rw [Nat.zero_add, World.cell?_alloc_mark]
  subst h
  simpa using hu

set_option maxHeartbeats 8000000 in
theorem weight_p (w : World) (c : PConf) (now : Int) (x : PWait) (hx : x.Ok) (hnow : i64ok now) : Calls Tryz.prog 129 #[.agg #[.int .i64 c.q, .int .i64 c.d, .int .i64 c.w, .int .i64 c.ttl, .int .i64 c.b], .int .i64 now, .agg #[.int .u8 x.r.i0, .int .u8 x.r.i1, .int .u8 x.r.i2, .int .u8 x.r.i3, .int .u8 x.r.i4, .int .u8 x.r.i5, .int .u8 x.r.i6, .int .u8 x.r.i7, .int .i16 x.r.fx, .int .i16 x.r.fy, .int .i16 x.r.tx, .int .i16 x.r.ty, .int .u8 x.r.seats, .int .u8 x.r.classes, .int .i64 x.r.base, .int .i64 x.r.ttl, .int .i64 x.since, .int .i64 x.number]] w fun e w' => e = .returned (.tuple #[.int .i64 (wtP c now x).1, .int .i64 (wtP c now x).2]) ∧ Below w.heap.size w w' := by
  have HXR := Lib.hid hx.r
  obtain ⟨xs1, xs2⟩ := hx.since
  obtain ⟨xt1, xt2⟩ := hx.r.ttl
  obtain ⟨nw1, nw2⟩ := hnow
  clear hx
  have HW := Lib.hid (CwRel.begin w c x)
  obtain ⟨A, E, hAE⟩ : ∃ A E, wtP c now x = (A, E) := ⟨_, _, rfl⟩
  rw [hAE]
  have HAE := Lib.hid hAE
  clear hAE
  go_enter Tryz.func129, Tryz.ntmps129
  go_upto_region 1 with fail
  generalize (w.alloc (.cells #[.int .i64 c.q, .int .i64 c.d, .int .i64 c.w, .int .i64 c.ttl, .int .i64 c.b] 23)).alloc (.cells #[.int .u8 x.r.i0, .int .u8 x.r.i1, .int .u8 x.r.i2, .int .u8 x.r.i3, .int .u8 x.r.i4, .int .u8 x.r.i5, .int .u8 x.r.i6, .int .u8 x.r.i7, .int .i16 x.r.fx, .int .i16 x.r.fy, .int .i16 x.r.tx, .int .i16 x.r.ty, .int .u8 x.r.seats, .int .u8 x.r.classes, .int .i64 x.r.base, .int .i64 x.r.ttl, .int .i64 x.since, .int .i64 x.number] 79) = W at *
  generalize w.heap.size + 1 = H1 at *
  have HHE := Lib.hid (show ∃ H0, w.heap.size = H0 from ⟨_, rfl⟩)
  obtain ⟨H0, hH0⟩ := HHE.out
  rw [hH0] at HW
  rw [hH0]
  have HH := Lib.hid hH0
  clear hH0 HHE
  go_wp2_with (first | ((with_reducible refine wpList_load_elem (o := ⟨some 13, _, _, _, _, _⟩) ?_ 23 (.tmp 3) ?_ H0 (0) ?_ c.cells #[.int .i64 c.q, .int .i64 c.d, .int .i64 c.w, .int .i64 c.ttl, .int .i64 c.b] ?_ _ (conf_whole HW.out.g) Tryz.underlying23 ?_ ?_ ?_); rfl; rfl; rfl; rfl; rfl; exact sz_conf) | ((with_reducible refine wpList_load_elem (o := ⟨some 15, _, _, _, _, _⟩) ?_ 77 (.tmp 14) ?_ H1 (0) ?_ x.r.cells #[.int .u8 x.r.i0, .int .u8 x.r.i1, .int .u8 x.r.i2, .int .u8 x.r.i3, .int .u8 x.r.i4, .int .u8 x.r.i5, .int .u8 x.r.i6, .int .u8 x.r.i7, .int .i16 x.r.fx, .int .i16 x.r.fy, .int .i16 x.r.tx, .int .i16 x.r.ty, .int .u8 x.r.seats, .int .u8 x.r.classes, .int .i64 x.r.base, .int .i64 x.r.ttl] ?_ _ (wait_head HW.out.h) Tryz.underlying77 ?_ ?_ ?_); rfl; rfl; rfl; rfl; rfl; exact sz_req))
  refine (check_any W c x.r).mono ?_
  rintro e w1 ⟨rfl, hb1⟩
  have HW1 := Lib.hid (HW.out.keep hb1)
  clear hb1 HW
  obtain ⟨g4, k14, k15, k16⟩ := HW1.out.cells
  by_cases h0 : checkE c x.r = 0
  · have HB := Lib.hid (check_bounds h0)
    obtain ⟨b1, b2, b3, b4, b5, b6, b7⟩ := HB.out
    have H0E := Lib.hid h0
    rw [h0]
    clear h0
    go_wp2_with fail
    refine (tick_any w1 now).mono ?_
    rintro e w2 ⟨rfl, rfl⟩
    by_cases ht1 : 0 ≤ now ∧ now ≤ 1099511627776
    · obtain ⟨t1, t2⟩ := ht1
      rw [show tickF now = true from decide_eq_true ⟨t1, t2⟩]
      go_wp2_with fail
      refine (tick_any w1 x.since).mono ?_
      rintro e w2 ⟨rfl, rfl⟩
      by_cases ht2 : 0 ≤ x.since ∧ x.since ≤ 1099511627776
      · obtain ⟨t3, t4⟩ := ht2
        rw [show tickF x.since = true from decide_eq_true ⟨t3, t4⟩]
        by_cases ht3 : now < x.since
        · have HE := Lib.hid (Prod.mk.inj (HAE.out.symm.trans (wtP_arg H0E.out (by omega))))
          go_wp2_with fail
          go_ret2
          exact ⟨by rw [HE.out.1, HE.out.2]; rfl, HW1.out.below⟩
        · have t5 : x.since ≤ now := by omega
          clear ht3
          by_cases ht4 : x.r.ttl < now - x.since
          · have HE := Lib.hid (Prod.mk.inj (HAE.out.symm.trans (wtP_gone H0E.out ⟨t1, t2, t3, t4, t5⟩ ht4)))
            go_wp2_with fail
            go_ret2
            exact ⟨by rw [HE.out.1, HE.out.2]; rfl, HW1.out.below⟩
          · have t6 : now - x.since ≤ x.r.ttl := by omega
            have HE := Lib.hid (Prod.mk.inj (HAE.out.symm.trans (wtP_good H0E.out ⟨t1, t2, t3, t4, t5⟩ ht4)))
            have hmb := mul_bd (a := now - x.since) (b := c.b + 1) (by omega) (by omega) (by omega) (by omega)
            have HM := Lib.hid (fun w => mul_small w (now - x.since) (c.b + 1) (by omega) (by omega) (by omega) (by omega))
            obtain ⟨M, hM⟩ : ∃ M, (now - x.since) * (c.b + 1) = M := ⟨_, rfl⟩
            rw [hM] at HM hmb HE
            obtain ⟨m1, m2⟩ := hmb
            clear ht4 hM
            go_wp2_with fail
            refine (HM.out w1).mono ?_
            rintro e w2 ⟨rfl, rfl⟩
            go_wp2_with fail
            have HB2 := Lib.hid (HW1.out.below.alloc HW1.out.below.size (.cells #[.int .i64 M, .int .i64 x.r.base, .int .i64 1] 3))
            refine (sum_small _ w1.heap.size 3 3 [M, x.r.base, 1] rfl (RdC.laid w1 #[.int .i64 M, .int .i64 x.r.base, .int .i64 1] 3 _ rfl) (by omega) (fun y hy => by
              simp only [List.mem_cons, List.not_mem_nil, or_false] at hy
              rcases hy with rfl | rfl | rfl <;> omega) (by simp only [List.sum_cons, List.sum_nil]; omega)).mono ?_
            rintro e w2 ⟨rfl, rfl⟩
            have HS3 := Lib.hid (show [M, x.r.base, 1].sum = A by rw [HE.out.1]; simp only [List.sum_cons, List.sum_nil]; omega)
            rw [HS3.out]
            generalize w1.alloc (.cells #[.int .i64 M, .int .i64 x.r.base, .int .i64 1] 3) = W2 at *
            go_wp2_with fail
            go_ret2
            exact ⟨by rw [HE.out.2]; rfl, HB2.out⟩
      · have HE := Lib.hid (Prod.mk.inj (HAE.out.symm.trans (wtP_arg H0E.out (by omega))))
        rw [show tickF x.since = false from decide_eq_false ht2]
        clear ht2
        go_wp2_with fail
        go_ret2
        exact ⟨by rw [HE.out.1, HE.out.2]; rfl, HW1.out.below⟩
    · have HE := Lib.hid (Prod.mk.inj (HAE.out.symm.trans (wtP_arg H0E.out (by omega))))
      rw [show tickF now = false from decide_eq_false ht1]
      clear ht1
      go_wp2_with fail
      go_ret2
      exact ⟨by rw [HE.out.1, HE.out.2]; rfl, HW1.out.below⟩
  · have HE := Lib.hid (Prod.mk.inj (HAE.out.symm.trans (wtP_check h0)))
    have b1 : (checkE c x.r == 0) = false := by simp [h0]
    have b2 : (checkE c x.r != 0) = true := by simp [h0]
    clear h0
    generalize checkE c x.r = C at *
    go_wp2_with fail
    go_ret2
    exact ⟨by rw [HE.out.1, HE.out.2]; rfl, HW1.out.below⟩
end Go.Proofs.YtcaicgipibcicaaGreat
