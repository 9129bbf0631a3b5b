/- Frames in memory; tell. -/
import Derived.Test.YtmblghdiejneoaaGreatQDec
namespace Go.Proofs.YtmblghdiejneoaaGreat
set_option maxRecDepth 100000
open Go.RowKit

/-- What a decoder met: kind (1 good, 2 bad), where, how many bytes, the content. -/
structure Fr where
  kind : Nat
  pos : Nat
  size : Nat
  content : List UInt8
def fcell (f : Fr) : List Value := [.int .u8 f.kind, .int .i64 f.pos, .int .i64 f.size, .string ⟨f.content.toArray⟩]
def fcells (l : List Fr) : List Value := l.flatMap fcell
theorem fcells_append (l m : List Fr) : fcells (l ++ m) = fcells l ++ fcells m := by simp [fcells]
theorem fcells_one (f : Fr) : fcells [f] = fcell f := by simp [fcells]
theorem fcells_nil : fcells [] = [] := rfl
theorem fcell_oneCell (f : Fr) : ∀ u ∈ fcell f, u.oneCell' = true := by
  intro u hu
  simp only [fcell, List.mem_cons, List.not_mem_nil, or_false] at hu
  rcases hu with rfl | rfl | rfl | rfl <;> rfl
theorem fcells_length (l : List Fr) : (fcells l).length = l.length * 4 := by
  induction l with
  | nil => rfl
  | cons f l ih => simp only [fcells, List.flatMap_cons, List.length_append] at ih ⊢; rw [ih]; simp [fcell]; omega

def zeroFrame : Value := .agg #[.int .u8 0, .int .i64 0, .int .i64 0, .string ⟨#[]⟩]
theorem info_frame : (Tryz.prog.info? 82).map (fun i => (i.zero, i.size, i.bytes)) = some (some zeroFrame, 4, 40) := by kernel_rfl

/-- One frame that a literal has laid. -/
theorem Src.frame {P : Program} {w : World} {tx e : TypeId} (hk : P.underlying tx = some (.slice e)) (f : Fr) (cs : Array Value) (t : TypeId) (h : cs = (fcell f).toArray) : Src P 4 tx (.slice (some ⟨w.heap.size, 0, none⟩) 1 1) 1 (fcell f) (w.alloc (.cells cs t)) := by
  subst h
  refine Src.ofSlice (P := P) _ hk _ _ 1 (fcell f) rfl (fun j u hu => ?_) (fcell_oneCell f)
  have hadd : (⟨w.heap.size, 0, none⟩ : Addr).add j = ⟨w.heap.size, j, none⟩ := by unfold Addr.add; split <;> simp_all
  rw [hadd, World.cell?_alloc_mark]
  simpa using hu

/-- What telling leaves. -/
def TellPost (w : World) (D : Nat) (r v : Value) (d : DSt) (n : Nat) (out : List Fr) (e : Ending) (w' : World) : Prop :=
  ∃ v', e = .returned v' ∧ Own w' 4 v' n (fcells out) ∧ w'.heap[D]? = some (.cells #[.bool true, .bool d.closed, .int .i64 d.fed, .int .i64 0, .int .i64 0, r] 93 (0, 0)) ∧
    Keep (fun k => k = D ∨ v.ownBlock = some k) w w' ∧ (v'.ownBlock = v.ownBlock ∨ ∃ g, v'.ownBlock = some g ∧ w.heap.size ≤ g)

set_option maxHeartbeats 1000000 in
theorem tell_none (w : World) (D : Nat) (r v : Value) (d : DSt) (hb : w.heap[D]? = some (.cells #[.bool true, .bool d.closed, .int .i64 d.fed, .int .i64 d.ba, .int .i64 d.bs, r] 93 (0, 0))) (h0 : d.bs = 0) :
    Calls Tryz.prog 111 #[.pointer (some ⟨D, 0, none⟩), v] w fun e w' => e = .returned v ∧ w = w' := by
  obtain ⟨c0, c1, c2, c3, c4, c5, hfr⟩ := six_cells hb
  rw [h0] at c4
  go_enter Tryz.func111, Tryz.ntmps111
  go_wp2
  go_ret
  exact ⟨rfl, rfl⟩

set_option maxHeartbeats 2000000 in
theorem tell_some (w : World) (D : Nat) (r v : Value) (d : DSt) (n : Nat) (out : List Fr) (hb : w.heap[D]? = some (.cells #[.bool true, .bool d.closed, .int .i64 d.fed, .int .i64 d.ba, .int .i64 d.bs, r] 93 (0, 0)))
    (h0 : 0 < d.bs) (hv : Own w 4 v n (fcells out)) (hvD : v.ownBlock ≠ some D) (hn : n ≤ 1000000000000) :
    Calls Tryz.prog 111 #[.pointer (some ⟨D, 0, none⟩), v] w (TellPost w D r v d (n + 1) (out ++ [⟨2, d.ba, d.bs, []⟩])) := by
  obtain ⟨i5, hi, hz0, hz1, hz2⟩ := info_parts info_frame
  obtain ⟨c0, c1, c2, c3, c4, c5, hfr⟩ := six_cells hb
  have hD := lt_of_block hb
  have HB := Lib.hid hb
  have HV := Lib.hid hv
  have h0' : (0 : Int) < (d.bs : Int) := by omega
  clear hb hv h0
  go_enter Tryz.func111, Tryz.ntmps111
  go_wp2_with (at_builtin; refine wpList_append_pos rfl (.tmp 11) (.tmp 17) 24 24 rfl 82 i5 zeroFrame 4 40 Tryz.underlying24 hi hz0 hz1 hz2 rfl v n (fcells out) rfl (HV.out.keep (Keep.alloc (fun _ => False) _ _) (fun _ _ => id)) (.slice (some ⟨w.heap.size, 0, none⟩) 1 1) 1 (fcell ⟨2, d.ba, d.bs, []⟩) rfl (Src.frame Tryz.underlying24 _ _ _ rfl) (.inl (by omega)) (by unfold maxLen; omega) (by omega) ?_)
  intro g1 q1 w1 ho1 hk1 hb1
  have hk1' := Lib.hid ((Keep.alloc (fun _ => False) w (.cells (fcell ⟨2, d.ba, d.bs, []⟩).toArray 82)).trans (Z := fun k => v.ownBlock = some k) hk1 (fun _ _ h => h.elim) (fun _ _ h => h))
  have hB1 := Lib.hid (hk1'.out.old HB.out hvD)
  obtain ⟨d0, d1, d2, d3, d4, d5, hfr1⟩ := six_cells hB1.out
  rw [← fcells_one, ← fcells_append] at ho1
  have ho1' := Lib.hid ho1
  have hb1' := Lib.hid hb1
  clear ho1 hk1 hb1 c0 c1 c2 c3 c4 c5 hfr
  have hf1 := row_set (row_set hB1.out 3 (.int .i64 0)) 4 (.int .i64 0)
  have hF1 := Lib.hid hf1
  clear hf1
  have hk2 := Lib.hid (show Keep (fun k => k = D) w1 ((w1.setCell ⟨D, 3, none⟩ (.int .i64 0)).setCell ⟨D, 4, none⟩ (.int .i64 0)) from (Keep.setCell w1 D 3 (.int .i64 0)).trans (Keep.setCell _ D 4 (.int .i64 0)) (fun _ _ h => h) (fun _ _ h => h))
  have hg1 : g1 ≠ D := by
    intro h
    subst h
    rcases hb1'.out with h | h
    · exact hvD h
    · omega
  have HG1 := Lib.hid hg1
  clear hg1
  go_wp2
  go_ret
  refine ⟨_, rfl, ho1'.out.keep hk2.out (fun g hg => by simp [Value.ownBlock] at hg; rw [← hg]; exact HG1.out), hF1.out, hk1'.out.trans hk2.out (fun _ _ h => .inr h) (fun _ _ h => .inl h), ?_⟩
  rcases hb1'.out with h | h
  · exact .inl h.symm
  · exact .inr ⟨g1, rfl, by omega⟩
/-- What is told, the bad bytes that were not told yet behind it. -/
def tellL (ba bs : Nat) (out : List Fr) : List Fr := if bs = 0 then out else out ++ [⟨2, ba, bs, []⟩]

theorem tell_any (w : World) (D : Nat) (r v : Value) (d : DSt) (out : List Fr) (hb : w.heap[D]? = some (.cells #[.bool true, .bool d.closed, .int .i64 d.fed, .int .i64 d.ba, .int .i64 d.bs, r] 93 (0, 0)))
    (h0 : d.bs = 0 → d.ba = 0) (hv : Own w 4 v out.length (fcells out)) (hvD : v.ownBlock ≠ some D) (hn : out.length ≤ 1000000000000) :
    Calls Tryz.prog 111 #[.pointer (some ⟨D, 0, none⟩), v] w (TellPost w D r v d (tellL d.ba d.bs out).length (tellL d.ba d.bs out)) := by
  unfold tellL
  by_cases h : d.bs = 0
  · rw [if_pos h]
    refine (tell_none w D r v d hb h).mono ?_
    rintro e w' ⟨rfl, rfl⟩
    have ha := h0 h
    rw [h, ha] at hb
    exact ⟨v, rfl, hv, hb, Keep.refl _ _, .inl rfl⟩
  · rw [if_neg h]
    have := tell_some w D r v d out.length out hb (by omega) hv hvD hn
    simpa using this
end Go.Proofs.YtmblghdiejneoaaGreat
