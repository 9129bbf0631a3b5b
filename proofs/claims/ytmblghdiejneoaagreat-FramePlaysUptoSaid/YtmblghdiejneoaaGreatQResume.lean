/- How decoders stand behind any calls. No program in sight. -/
import Derived.Test.YtmblghdiejneoaaGreatQROk
import Derived.Test.YtmblghdiejneoaaGreatQRowSet
import Derived.Lib.Strings
import Derived.Lib.BufferWrite
import Derived.Lib.UnsafeStr
import Derived.Laws.MakeOwn
import Derived.Deep.RegionWith
namespace Go.Proofs.YtmblghdiejneoaaGreat
set_option maxRecDepth 100000

theorem open_short {l : List UInt8} (h : (wholeF l).2 = true) : l.length ≤ 5000 := by
  unfold wholeF at h
  by_cases h2 : l.length < 2
  · omega
  rw [if_neg h2] at h
  by_cases hm : l.take 2 = [197, 171]
  · rw [if_neg (fun e => e hm)] at h
    by_cases h4 : l.length < 4
    · omega
    rw [if_neg h4] at h
    by_cases hw : 4096 < lenOf l
    · rw [if_pos hw] at h; simp at h
    rw [if_neg hw] at h
    by_cases ho : l.length < lenOf l + 8
    · omega
    rw [if_neg ho] at h
    split at h <;> simp at h
  · rw [if_pos hm] at h; simp at h
theorem rok_short {d : DSt} (h : ROk d) : d.rest.length ≤ 5000 := by
  cases hc : d.closed with
  | true => rw [(h.shut hc).1]; simp
  | false =>
    rcases h.opened hc with h1 | h1
    · rw [h1]; simp
    · exact open_short h1
theorem feed_rok {d : DSt} (h : ROk d) (b : List UInt8) : ROk (feedF d b).2 := by
  by_cases hn : d.closed = true ∨ 4611686018427387903 < d.fed + b.length
  · unfold feedF; rw [if_pos hn]; exact h
  · have hc : d.closed = false := by
      cases hx : d.closed with
      | true => exact absurd (.inl hx) hn
      | false => rfl
    exact feedF_rok h b hc (by
      have : ¬ 4611686018427387903 < d.fed + b.length := fun hx => hn (.inr hx)
      omega)
theorem close_rok {d : DSt} (h : ROk d) : ROk (closeF d).2 := by
  cases hc : d.closed with
  | true => unfold closeF; rw [if_pos hc]; exact h
  | false => rw [closeF_st d hc]; exact closed_rok d.fed h.most
theorem feed_told {d : DSt} (h : ROk d) {b : List UInt8} (hb : b.length ≤ 1048576) : (feedF d b).1.length ≤ 100000000000 := by
  have h1 := (feedF_len d b).1
  have h2 := rok_short h
  omega
theorem close_told {d : DSt} (h : ROk d) : (closeF d).1.length ≤ 100000000000 := by
  have h1 := (closeF_len d).1
  have h2 := rok_short h
  omega
end Go.Proofs.YtmblghdiejneoaaGreat

/- strings.Clone: the same text. -/
namespace Go.Proofs.YtmblghdiejneoaaGreat
set_option maxRecDepth 100000
open Go.RowKit

set_option maxHeartbeats 4000000 in
set_option maxRecDepth 100000 in
theorem sclone_any (s : ByteArray) (w : World) (hs : s.size ≤ 140737488351232) :
    Calls Tryz.prog 171 #[.string s] w fun e w' => e = .returned (.string s) ∧ Below w.heap.size w w' := by
  by_cases h0 : s.size = 0
  · have he : s = ⟨#[]⟩ := ByteArray.ext (Array.eq_empty_of_size_eq_zero h0)
    subst he
    go_enter Tryz.func171, Tryz.ntmps171
    go_wp2
    go_ret
    exact ⟨rfl, Below.refl _ _⟩
  · obtain ⟨i5, hi, hz0, hz1, hz2⟩ := info_parts info_u8
    have hinfo : (Tryz.prog.info? 5).map (·.size) = some 1 := by rw [hi]; simp [hz1]
    have hco : Tryz.prog.cellsOf 5 = 1 := by simp [Program.cellsOf, hi, hz1]
    obtain ⟨M, hM⟩ : ∃ M, M = madeCells (Value.int .u8 0).cells (((s.size : Nat) : Int).toNat * i5.size) := ⟨_, rfl⟩
    have hMs : M.size = s.size := by rw [hM, size_madeCells, hz1]; simp
    have hmk : ∀ W : World, (Instr.makeSlice 22 (.int .i64 (s.size : Int)) (.int .i64 (s.size : Int))).run Tryz.prog W = .ok (.slice (some ⟨W.heap.size, 0, none⟩) s.size s.size) (W.alloc (.cells M 5)) := fun W => by
      have h := run_make (P := Tryz.prog) W 22 5 i5 (.int .u8 0) Tryz.underlying22 hi hz0 .i64 .i64 (s.size : Int) (s.size : Int) (by omega) (by omega) (by rw [hz2]; omega) (by omega)
      rw [← hM] at h
      simpa using h
    clear hM
    have hcp := Lib.run_copy_row_string (P := Tryz.prog) (w.alloc (.cells M 5)) 22 9 3 5 w.heap.size 0 s.size s.size s M 5 Tryz.underlying22 hinfo (heap_alloc_new w _) (Nat.le_refl _) (by omega)
    obtain ⟨Y, hY⟩ : ∃ Y, Y = (M.toList.take 0 ++ Lib.byteCells s.data.toList ++ M.toList.drop (0 + s.size)).toArray := ⟨_, rfl⟩
    rw [← hY] at hcp
    have hYl : Y.toList = Lib.byteCells s.data.toList := by
      rw [hY, List.toList_toArray, List.take_zero, List.nil_append, List.drop_of_length_le (by rw [Array.length_toList]; omega), List.append_nil]
    have hYs : Y.size = s.size := by rw [← Array.length_toList, hYl, Lib.byteCells_length, ← Lib.size_eq]
    have hgY : ((w.alloc (.cells M 5)).setRow w.heap.size Y).heap[w.heap.size]? = some (.cells Y 5 (0, 0)) := setRow_heap _ _ M _ 5 (0, 0) (heap_alloc_new w _)
    have hne : s.data.toList ≠ [] := fun e => h0 (by rw [Lib.size_eq, e]; rfl)
    have hUS := Lib.run_unsafeString_row (P := Tryz.prog) ((w.alloc (.cells M 5)).setRow w.heap.size Y) 283 3 9 5 Tryz.underlying283 hco w.heap.size Y.size (by unfold World.shape?; rw [hgY]) s.data.toList hne (by rw [← Lib.size_eq]; omega) (by rw [← Lib.size_eq]; omega)
      (fun j x hx => Lib.cells_of_row hgY Y.size j _ (by rw [List.take_of_length_le (by rw [Array.length_toList]; exact Nat.le_refl _), hYl]; simp [Lib.byteCells, hx]))
    rw [← Lib.size_eq] at hUS
    clear hY
    have hb1 : Below w.heap.size w (w.alloc (.cells M 5)) := (Below.refl _ w).alloc (Nat.le_refl _) _
    have hb2 : Below w.heap.size (w.alloc (.cells M 5)) ((w.alloc (.cells M 5)).setRow w.heap.size Y) := ⟨rfl, rfl, rfl, by simp, fun k hk => setRow_other _ _ _ _ (by omega)⟩
    have HB := Lib.hid (hb1.trans hb2)
    clear hb1 hb2
    go_enter Tryz.func171, Tryz.ntmps171
    go_wp2
    go_ret
    exact ⟨rfl, Lib.below_freeze HB.out (p := ⟨w.heap.size, 0, none⟩) (Nat.le_refl _) _⟩

theorem clone_any (s : ByteArray) (w : World) (hs : s.size ≤ 140737488351232) :
    Calls Tryz.prog 167 #[.string s] w fun e w' => e = .returned (.string s) ∧ Below w.heap.size w w' := by
  have H := Lib.hid (sclone_any s w hs)
  go_enter Tryz.func167, Tryz.ntmps167
  go_wp2_with fail
  refine H.out.mono ?_
  rintro e w1 ⟨rfl, hb⟩
  go_wp2_with fail
  go_ret
  exact ⟨rfl, hb⟩
end Go.Proofs.YtmblghdiejneoaaGreat

/- Resume: a decoder that stands as another one stood. -/
namespace Go.Proofs.YtmblghdiejneoaaGreat
set_option maxRecDepth 100000
open Go.RowKit

def ResumePost (w : World) (d : DSt) (e : Ending) (w' : World) : Prop :=
  ∃ D r, e = .returned (.tuple #[.pointer (some ⟨D, 0, none⟩), .int .i64 0]) ∧ DecAt w' D r d ∧ w.heap.size ≤ D ∧ (∀ g, r.ownBlock = some g → w.heap.size ≤ g) ∧ Below w.heap.size w w'

/-- What a conversion of a text to bytes has laid. -/
theorem own_conv (w : World) (S : ByteArray) (cap : Nat) (e : TypeId) (h : S.size ≤ cap) (hc : cap ≤ maxLen) :
    Own (w.drew.alloc (.cells (bytesRow S cap) e ((bytesRow S cap).size, (bytesRow S cap).size + 1))) 1 (.slice (some ⟨w.heap.size, 0, none⟩) S.size cap) S.size (bcells S.data.toList) := by
  refine ⟨by rw [bcells_length, Nat.mul_one]; rfl, .inr ⟨_, cap, rfl, h, hc, ?_⟩⟩
  refine Row.made w.drew _ e _ cap 1 (bcells S.data.toList) ?_ (.inr (Nat.le_refl _)) ?_
  · unfold bytesRow
    rw [Array.size_append, Array.size_map, Array.size_replicate]
    show S.size + (cap - S.size) = cap * 1
    omega
  · intro j u hu
    obtain ⟨hj, rfl⟩ := bcells_get _ j u hu
    rw [bytesRow_at _ cap j (by simpa using hj)]
    simp

theorem resume_done {w W w3 : World} {d : DSt} {S : ByteArray} (hb0 : Below w.heap.size w W) (hb3 : Below W.drew.heap.size W.drew w3) (hS : S.data.toList = d.rest) (hl : S.size ≤ 100000000000) :
    ResumePost w d (.returned (.tuple #[.pointer (some ⟨w3.heap.size + 1, 0, none⟩), .int .i64 0]))
      ((w3.drew.alloc (.cells (bytesRow S (grownCap w3 S.size 0 5)) 5 ((bytesRow S (grownCap w3 S.size 0 5)).size, (bytesRow S (grownCap w3 S.size 0 5)).size + 1))).alloc
        (.cells #[.bool true, .bool d.closed, .int .i64 d.fed, .int .i64 d.ba, .int .i64 d.bs, .slice (some ⟨w3.heap.size, 0, none⟩) S.size (grownCap w3 S.size 0 5)] 93)) := by
  have h3 := Below.next (Below.drew hb0) hb3
  have hs3 := h3.size
  have hge := grownCap_ge w3 S.size 0 5
  have hcm := grownCap_le_maxLen w3 S.size 0 5 (by unfold maxLen; omega)
  have hown := own_conv w3 S (grownCap w3 S.size 0 5) 5 hge hcm
  have hsz : S.size = d.rest.length := by rw [← hS]; simp
  generalize hC : Obj.cells (bytesRow S (grownCap w3 S.size 0 5)) 5 ((bytesRow S (grownCap w3 S.size 0 5)).size, (bytesRow S (grownCap w3 S.size 0 5)).size + 1) = C at *
  have hn := heap_alloc_new (w3.drew.alloc C) (.cells #[.bool true, .bool d.closed, .int .i64 d.fed, .int .i64 d.ba, .int .i64 d.bs, .slice (some ⟨w3.heap.size, 0, none⟩) S.size (grownCap w3 S.size 0 5)] 93)
  have hsize : (w3.drew.alloc C).heap.size = w3.heap.size + 1 := by simp
  rw [hsize] at hn
  refine ⟨w3.heap.size + 1, _, rfl, ⟨hn, ?_, ?_⟩, by omega, ?_, ?_⟩
  · rw [← hS, ← (show S.size = S.data.toList.length from by simp)]
    exact hown.keep (Keep.alloc (fun _ => False) _ _) (fun _ _ => id)
  · simp [Value.ownBlock]
  · intro g hg
    simp [Value.ownBlock] at hg
    omega
  · exact (h3.drew.alloc (by simpa using hs3) _).alloc (by rw [hsize]; omega) _

set_option maxRecDepth 100000 in
set_option maxHeartbeats 4000000 in
theorem resume_closed (w : World) (n : Nat) (hn : n ≤ 4611686018427387903) :
    Calls Tryz.prog 106 #[.int .i64 n, .agg #[.int .i64 0, .int .i64 0], .string ⟨#[]⟩, .bool true] w (ResumePost w ⟨true, n, 0, 0, []⟩) := by
  have heq := eq_span'
  have hq : bqS 0 0 0 0 = true := by simp [bqS]
  have HC := Lib.hid (fun w => clone_any ⟨#[]⟩ w (Nat.zero_le _))
  have hcv := fun (w : World) (s : ByteArray) => run_bytes_of_string (P := Tryz.prog) w 9 22 5 s Tryz.underlying9 Tryz.underlying22 Tryz.underlying5
  go_enter Tryz.func106, Tryz.ntmps106
  go_wp2_with fail
  have hW : ∀ W, W = w.alloc (.cells #[.int .i64 0, .int .i64 0] 60) → W.cell? ⟨w.heap.size, 0, none⟩ = some (.int .i64 0) ∧ W.cell? ⟨w.heap.size, 1, none⟩ = some (.int .i64 0) ∧ Hid (Below w.heap.size w W) := fun W h => by subst h; exact ⟨by go_simp, by go_simp, Lib.hid ((Below.refl _ _).alloc (Nat.le_refl _) _)⟩
  generalize w.alloc (.cells #[.int .i64 0, .int .i64 0] 60) = W at *
  obtain ⟨h0, h1, HB0⟩ := hW W rfl
  clear hW
  go_region_with (go_at_call 167; refine (HC.out _).mono ?_; rintro e w3 ⟨rfl, hb3⟩; have e0 := (Keep.of_below hb3 (Nat.le_refl _) (fun _ => False)).cell (p := ⟨w.heap.size, 0, none⟩) (v := .int .i64 0) (by go_simp) id; have e1 := (Keep.of_below hb3 (Nat.le_refl _) (fun _ => False)).cell (p := ⟨w.heap.size, 1, none⟩) (v := .int .i64 0) (by go_simp) id; have HB3 := Lib.hid hb3; have hd3 := World.block_lt_of_cell? w3 _ e0; simp only at hd3; clear hb3)
  all_goals
    go_wp2_with fail
    refine bodyPost_ret (v := .tuple #[.pointer (some ⟨w3.heap.size + 1, 0, none⟩), .int .i64 0]) (by simp [results, Tryz.results106, go_sem]) rfl ?_
    exact resume_done (d := ⟨true, n, 0, 0, []⟩) (S := ⟨#[]⟩) HB0.out HB3.out (by rfl) (Nat.zero_le _)
end Go.Proofs.YtmblghdiejneoaaGreat
