/- See on no auditor, and on one that New did not make. -/
import Derived.Test.YtcaicgipibcicaaGreatQAuSee
import Derived.Test.YtcaicgipibcicaaGreatQAuLaw
import Derived.Test.YtcaicgipibcicaaGreatQTwinRec2
namespace Go.Proofs.YtcaicgipibcicaaGreat
set_option maxRecDepth 100000
set_option linter.unusedVariables false
set_option linter.unusedSimpArgs false
open Go.RowKit Go.Sort

set_option maxHeartbeats 4000000 in
theorem see_nil (w : World) (v : RV) : Calls Tryz.prog 20 #[.pointer none, .agg #[.int .i64 v.x.tick, .slice v.wo v.wn v.wc, .slice v.ko v.kn v.kc, .int .i64 v.x.rows, .int .i64 v.x.cols, .slice v.eo v.en v.ec, .slice v.po v.pn v.pc, .slice v.yo v.yn v.yc, .slice v.zo v.zn v.zc]] w fun e w' => e = .returned (.int .i64 2) ∧ Below w.heap.size w w' := by
  have HB := Lib.hid ((Below.refl w.heap.size w).alloc (Nat.le_refl _) (.cells #[.int .i64 v.x.tick, .slice v.wo v.wn v.wc, .slice v.ko v.kn v.kc, .int .i64 v.x.rows, .int .i64 v.x.cols, .slice v.eo v.en v.ec, .slice v.po v.pn v.pc, .slice v.yo v.yn v.yc, .slice v.zo v.zn v.zc] 34))
  go_enter Tryz.func20, Tryz.ntmps20
  go_wp2_with fail
  go_ret
  exact ⟨rfl, HB.out⟩

set_option maxHeartbeats 4000000 in
theorem see_bare (w : World) (A : Nat) (v : RV) (h : w.cell? ⟨A, 6, none⟩ = some (.map none)) : Calls Tryz.prog 20 #[.pointer (some ⟨A, 0, none⟩), .agg #[.int .i64 v.x.tick, .slice v.wo v.wn v.wc, .slice v.ko v.kn v.kc, .int .i64 v.x.rows, .int .i64 v.x.cols, .slice v.eo v.en v.ec, .slice v.po v.pn v.pc, .slice v.yo v.yn v.yc, .slice v.zo v.zn v.zc]] w fun e w' => e = .returned (.int .i64 2) ∧ Below w.heap.size w w' := by
  have HB := Lib.hid ((Below.refl w.heap.size w).alloc (Nat.le_refl _) (.cells #[.int .i64 v.x.tick, .slice v.wo v.wn v.wc, .slice v.ko v.kn v.kc, .int .i64 v.x.rows, .int .i64 v.x.cols, .slice v.eo v.en v.ec, .slice v.po v.pn v.pc, .slice v.yo v.yn v.yc, .slice v.zo v.zn v.zc] 34))
  have HA := Lib.hid ((Keep.alloc (fun _ => False) w (.cells #[.int .i64 v.x.tick, .slice v.wo v.wn v.wc, .slice v.ko v.kn v.kc, .int .i64 v.x.rows, .int .i64 v.x.cols, .slice v.eo v.en v.ec, .slice v.po v.pn v.pc, .slice v.yo v.yn v.yc, .slice v.zo v.zn v.zc] 34)).cell h id)
  clear h
  have hme : ∀ w, (binOp .eql 54 (.map none) (.map none)).run Tryz.prog w = .ok (.bool true) w := fun w => run_eql_map_nil w _ _ _ none Tryz.underlying54
  go_enter Tryz.func20, Tryz.ntmps20
  go_upto_region 1 with fail
  generalize w.alloc (.cells #[.int .i64 v.x.tick, .slice v.wo v.wn v.wc, .slice v.ko v.kn v.kc, .int .i64 v.x.rows, .int .i64 v.x.cols, .slice v.eo v.en v.ec, .slice v.po v.pn v.pc, .slice v.yo v.yn v.yc, .slice v.zo v.zn v.zc] 34) = W at *
  have a6 := HA.out
  go_wp2_with fail
  go_ret
  exact ⟨rfl, HB.out⟩
end Go.Proofs.YtcaicgipibcicaaGreat

/- The program's auditor and the reference's, side by side: what each call turns, and what it leaves. -/
namespace Go.Proofs.YtcaicgipibcicaaGreat
set_option maxRecDepth 100000
set_option linter.unusedVariables false
set_option linter.unusedSimpArgs false
open Go.RowKit Go.Sort

/-- Both in memory, in the blocks of U. -/
structure DuoG (N : Nat) (c : PConf) (A M n R : Nat) (sv : Value) (tn : Nat) (a : PAu) (ts : List RV) (U : Nat → Prop) (w : World) : Prop where
  ac : a.c = c
  au : AuAt a A M n w
  ref : RefOwn N c ts R sv tn w
  am : A ≠ M
  ar : A ≠ R ∧ M ≠ R
  asx : sv.ownBlock ≠ some A ∧ sv.ownBlock ≠ some M
  uA : U A
  uM : U M
  uR : U R
  uS : ∀ g, sv.ownBlock = some g → U g
  uN : ∀ g, U g → N ≤ g ∧ g < w.heap.size

section
variable {N : Nat} {c : PConf} {A M n R : Nat} {sv : Value} {tn : Nat} {a : PAu} {ts : List RV} {U X : Nat → Prop} {w w' : World}
theorem DuoG.keep (h : DuoG N c A M n R sv tn a ts U w) (hk : Keep X w w') (hx : ∀ g, U g → ¬ X g) (hX : ∀ g, X g → N ≤ g) : DuoG N c A M n R sv tn a ts U w' :=
  ⟨h.ac, h.au.keepX hk (hx _ h.uA) (hx _ h.uM), h.ref.keep hk (fun k hk => ⟨hX k hk, fun e => hx k (e ▸ h.uR) hk, fun e => hx k (h.uS k e) hk⟩), h.am, h.ar, h.asx, h.uA, h.uM, h.uR, h.uS, fun g hg => ⟨(h.uN g hg).1, Nat.lt_of_lt_of_le (h.uN g hg).2 hk.size⟩⟩
/-- The program's has seen. -/
theorem DuoG.seen (h : DuoG N c A M n R sv tn a ts U w) {x : PRec} {e : Ending} (hp : SeePost w a A M n x e w') (hc : (seeF a x).2.c = a.c) :
    e = .returned (.int .i64 (seeF a x).1) ∧ DuoG N c A M (n + 128) R sv tn (seeF a x).2 ts U w' ∧ Keep U w w' := by
  obtain ⟨he, ha, hk⟩ := hp
  refine ⟨he, ⟨by rw [hc]; exact h.ac, ha, h.ref.keep hk ?_, h.am, h.ar, h.asx, h.uA, h.uM, h.uR, h.uS, fun g hg => ⟨(h.uN g hg).1, Nat.lt_of_lt_of_le (h.uN g hg).2 hk.size⟩⟩, hk.mono fun k _ hX => ?_⟩
  · rintro k (rfl | rfl)
    · exact ⟨(h.uN _ h.uA).1, h.ar.1, h.asx.1⟩
    · exact ⟨(h.uN _ h.uM).1, h.ar.2, h.asx.2⟩
  · rcases hX with rfl | rfl
    · exact h.uA
    · exact h.uM
/-- The reference's has seen. -/
theorem DuoG.took (h : DuoG N c A M n R sv tn a ts U w) (hN : N ≤ w.heap.size) {v : RV} {e : Ending} (hp : RSeePost N w c ts R sv v e w') :
    e = .returned (.int .i64 (rseeF c ts v).1) ∧ (∃ sv' tn', DuoG N c A M n R sv' tn' a (rseeF c ts v).2 (fun g => U g ∨ (w.heap.size ≤ g ∧ g < w'.heap.size)) w') ∧ Keep U w w' := by
  obtain ⟨he, sv', tn', hr, hk, ho⟩ := hp
  have hAl := (h.uN _ h.uA).2
  have hMl := (h.uN _ h.uM).2
  have hown : ∀ g, sv'.ownBlock = some g → sv.ownBlock = some g ∨ (w.heap.size ≤ g ∧ g < w'.heap.size) := by
    intro g hg
    rcases ho with h1 | ⟨g', h1, h2⟩
    · rw [h1] at hg; exact .inl hg
    · rw [h1] at hg
      cases hg
      exact .inr ⟨h2, hr.own.lt _ h1⟩
  refine ⟨he, ⟨sv', tn', h.ac, h.au.keepX hk (fun e => ?_) (fun e => ?_), hr, h.am, h.ar, ⟨fun e => ?_, fun e => ?_⟩, .inl h.uA, .inl h.uM, .inl h.uR, fun g hg => ?_, fun g hg => ?_⟩, hk.mono fun k _ hX => ?_⟩
  · rcases e with e | e
    · exact h.ar.1 e
    · exact h.asx.1 e
  · rcases e with e | e
    · exact h.ar.2 e
    · exact h.asx.2 e
  · rcases hown A e with h1 | h1
    · exact h.asx.1 h1
    · omega
  · rcases hown M e with h1 | h1
    · exact h.asx.2 h1
    · omega
  · rcases hown g hg with h1 | h1
    · exact .inl (h.uS g h1)
    · exact .inr h1
  · rcases hg with hg | hg
    · exact ⟨(h.uN g hg).1, Nat.lt_of_lt_of_le (h.uN g hg).2 hk.size⟩
    · omega
  · rcases hX with rfl | hX
    · exact h.uR
    · exact h.uS k hX
end

/-- Both behind k records, or neither. -/
def Duo (N : Nat) (c : PConf) (pv : Value) (R : Nat) (U : Nat → Prop) (k : Nat) (w : World) : Prop :=
  (configF c = false ∧ pv = .pointer none ∧ ∀ g, ¬ U g) ∨
  (configF c = true ∧ ∃ A M n sv tn a ts, pv = .pointer (some ⟨A, 0, none⟩) ∧ DuoG N c A M n R sv tn a ts U w ∧ Alike a ts ∧ n ≤ 128 * k ∧ tn ≤ k)
/-- The program's has seen the record, the reference's has not. -/
def Half (N : Nat) (c : PConf) (pv : Value) (R : Nat) (U : Nat → Prop) (k : Nat) (v : RV) (z : Int) (w : World) : Prop :=
  (configF c = false ∧ pv = .pointer none ∧ (∀ g, ¬ U g) ∧ z = 2) ∨
  (configF c = true ∧ ∃ A M n sv tn a ts, pv = .pointer (some ⟨A, 0, none⟩) ∧ DuoG N c A M n R sv tn (seeF a v.x).2 ts U w ∧ Alike a ts ∧ z = (seeF a v.x).1 ∧ n ≤ 128 * (k + 1) ∧ tn ≤ k)
section
variable {N : Nat} {c : PConf} {pv : Value} {R : Nat} {U X : Nat → Prop} {k : Nat} {v : RV} {z : Int} {w w' : World}
theorem Duo.keep (h : Duo N c pv R U k w) (hk : Keep X w w') (hx : ∀ g, U g → ¬ X g) (hX : ∀ g, X g → N ≤ g) : Duo N c pv R U k w' := by
  rcases h with h | ⟨hc, A, M, n, sv, tn, a, ts, h1, h2, h3⟩
  · exact .inl h
  · exact .inr ⟨hc, A, M, n, sv, tn, a, ts, h1, h2.keep hk hx hX, h3⟩
theorem Duo.below (h : Duo N c pv R U k w) (hb : Below w.heap.size w w') : Duo N c pv R U k w' :=
  h.keep (Keep.of_below hb (Nat.le_refl _) (fun _ => False)) (fun _ _ => id) (fun _ h => h.elim)
theorem Half.keep (h : Half N c pv R U k v z w) (hk : Keep X w w') (hx : ∀ g, U g → ¬ X g) (hX : ∀ g, X g → N ≤ g) : Half N c pv R U k v z w' := by
  rcases h with h | ⟨hc, A, M, n, sv, tn, a, ts, h1, h2, h3⟩
  · exact .inl h
  · exact .inr ⟨hc, A, M, n, sv, tn, a, ts, h1, h2.keep hk hx hX, h3⟩
theorem Half.below (h : Half N c pv R U k v z w) (hb : Below w.heap.size w w') : Half N c pv R U k v z w' :=
  h.keep (Keep.of_below hb (Nat.le_refl _) (fun _ => False)) (fun _ _ => id) (fun _ h => h.elim)
theorem Duo.lt (h : Duo N c pv R U k w) : ∀ g, U g → N ≤ g ∧ g < w.heap.size := by
  rcases h with ⟨_, _, h⟩ | ⟨_, A, M, n, sv, tn, a, ts, _, h2, _⟩
  · exact fun g hg => (h g hg).elim
  · exact h2.uN
theorem Duo.more (h : Duo N c pv R U k w) : Duo N c pv R U (k + 1) w := by
  rcases h with h | ⟨hc, A, M, n, sv, tn, a, ts, h1, h2, h3, h4, h5⟩
  · exact .inl h
  · exact .inr ⟨hc, A, M, n, sv, tn, a, ts, h1, h2, h3, by omega, by omega⟩
/-- Neither is there. -/
theorem Half.bad (h : Half N c pv R U k v z w) (hc : configF c = false) : z = 2 ∧ Duo N c pv R U (k + 1) w := by
  rcases h with ⟨h1, h2, h3, h4⟩ | ⟨h1, _⟩
  · exact ⟨h4, .inl ⟨h1, h2, h3⟩⟩
  · rw [hc] at h1; cases h1
/-- The program's sees a record (the twin u of v). -/
theorem duo_see (h : Duo N c pv R U k w) (hk : k ≤ 1048576) (v u : RV) (hx : u.x = v.x) (hin : u.In w) (hap : ∀ ao, ao = u.wo ∨ ao = u.ko ∨ ao = u.eo ∨ ao = u.po ∨ ao = u.yo ∨ ao = u.zo → ∀ b o, ao = some ⟨b, o, none⟩ → ¬ U b) :
    Calls Tryz.prog 20 #[pv, .agg #[.int .i64 u.x.tick, .slice u.wo u.wn u.wc, .slice u.ko u.kn u.kc, .int .i64 u.x.rows, .int .i64 u.x.cols, .slice u.eo u.en u.ec, .slice u.po u.pn u.pc, .slice u.yo u.yn u.yc, .slice u.zo u.zn u.zc]] w fun e w' => ∃ z, e = .returned (.int .i64 z) ∧ Half N c pv R U k v z w' ∧ Keep U w w' := by
  rcases h with ⟨hc, rfl, hU⟩ | ⟨hc, A, M, n, sv, tn, a, ts, rfl, h2, h3, h4, h5⟩
  · refine (see_nil w u).mono ?_
    rintro e w' ⟨rfl, hb⟩
    exact ⟨2, rfl, .inl ⟨hc, rfl, hU, rfl⟩, Keep.of_below hb (Nat.le_refl _) _⟩
  · refine (see_any w a A M n u h2.au hin (fun ao ha b o hb e => hap ao ha b o hb (by rcases e with rfl | rfl; exact h2.uA; exact h2.uM)) h2.am h3.cf h3.range (by omega)).mono ?_
    intro e w' hp
    rw [hx] at hp
    obtain ⟨he, hd, hkp⟩ := h2.seen hp (h3.see v).2.2.1
    exact ⟨_, he, .inr ⟨hc, A, M, n + 128, sv, tn, a, ts, rfl, hd, h3, rfl, by omega, h5⟩, hkp⟩
/-- The reference's sees it, too. -/
theorem duo_ref (h : Half N c pv R U k v z w) (hc : configF c = true) (hk : k ≤ 1048576) (hin : v.In w) (hlow : v.Low N) (hN : N ≤ w.heap.size) :
    Calls Tryz.prog 21 #[.pointer (some ⟨R, 0, none⟩), .agg #[.int .i64 v.x.tick, .slice v.wo v.wn v.wc, .slice v.ko v.kn v.kc, .int .i64 v.x.rows, .int .i64 v.x.cols, .slice v.eo v.en v.ec, .slice v.po v.pn v.pc, .slice v.yo v.yn v.yc, .slice v.zo v.zn v.zc]] w fun e w' => e = .returned (.int .i64 z) ∧ Duo N c pv R (fun g => U g ∨ (w.heap.size ≤ g ∧ g < w'.heap.size)) (k + 1) w' ∧ Keep U w w' := by
  rcases h with ⟨h1, _⟩ | ⟨_, A, M, n, sv, tn, a, ts, rfl, h2, h3, rfl, h4, h5⟩
  · rw [hc] at h1; cases h1
  · obtain ⟨s1, s2, s3, s4⟩ := h3.see v
    have hac : a.c = c := by rw [← s3]; exact h2.ac
    rw [hac] at s1 s2 s4
    refine (rsee_any N w c ts R sv tn v h2.ref hin hlow hN hc (fun u hu => auditE_rec h3.cf (h3.good u hu)) (by omega)).mono ?_
    intro e w' hp
    obtain ⟨he, ⟨sv', tn', hd⟩, hkp⟩ := h2.took hN hp
    have hl := hd.ref.len
    have hl0 := h2.ref.len
    exact ⟨by rw [he, s1], .inr ⟨hc, A, M, n, sv', tn', (seeF a v.x).2, (rseeF c ts v).2, rfl, hd, s2, h4, by omega⟩, hkp⟩
end
/-- Two new ones: the program's at A and M, the reference's laid at R. -/
theorem Duo.new {N : Nat} {c : PConf} {A M R : Nat} {w' : World} (hc : configF c = true) (ha : AuAt ⟨c, 0, []⟩ A M 0 w') (hAM : A ≠ M) (hAR : A ≠ R) (hMR : M ≠ R) (hAN : N ≤ A) (hMN : N ≤ M) (hRN : N ≤ R) (hr : w'.heap[R]? = some (.cells #[.int .i64 c.q, .int .i64 c.d, .int .i64 c.w, .int .i64 c.ttl, .int .i64 c.b, .slice none 0 0] 50 (0, 0))) :
    Duo N c (.pointer (some ⟨A, 0, none⟩)) R (fun g => g = A ∨ g = M ∨ g = R) 0 w' := by
  have hAl := lt_of_block ha.box
  have hMl : M < w'.heap.size := by obtain ⟨es, clock, hb, r⟩ := ha.own; exact lt_of_block hb
  have hRl := lt_of_block hr
  refine .inr ⟨hc, A, M, 0, .slice none 0 0, 0, ⟨c, 0, []⟩, [], rfl, ⟨rfl, ha, ⟨hr, rfl, ⟨rfl, .inl ⟨rfl, rfl⟩⟩, (fun _ h => by cases h), (fun _ h => by cases h), hRN, (fun g hg => by cases hg)⟩, hAM, ⟨hAR, hMR⟩, ⟨(fun h => by cases h), (fun h => by cases h)⟩, .inl rfl, .inr (.inl rfl), .inr (.inr rfl), (fun g hg => by cases hg), fun g hg => ?_⟩, Alike.new hc, by omega, by omega⟩
  rcases hg with rfl | rfl | rfl
  · exact ⟨hAN, hAl⟩
  · exact ⟨hMN, hMl⟩
  · exact ⟨hRN, hRl⟩
end Go.Proofs.YtcaicgipibcicaaGreat

/- A record is written over where it lies. Printed by wip/genwipe.py. -/
namespace Go.Proofs.YtcaicgipibcicaaGreat
set_option maxRecDepth 100000
set_option linter.unusedVariables false
set_option linter.unusedSimpArgs false
open Go.RowKit Go.Sort

/-- While it is written over: its box, room in its lists, all else kept. -/
structure WpRel (w : World) (tk ro co : Int) (g1 g2 g3 g4 wn wc kn kc en ec pn pc : Nat) (sy sz : Value) (H : Nat) (wr : World) : Prop where
  rb : wr.heap[H]? = some (.cells #[.int .i64 tk, .slice (some ⟨g1, 0, none⟩) wn wc, .slice (some ⟨g2, 0, none⟩) kn kc, .int .i64 ro, .int .i64 co, .slice (some ⟨g3, 0, none⟩) en ec, .slice (some ⟨g4, 0, none⟩) pn pc, sy, sz] 34 (0, 0))
  keep : Keep (fun k => k = g1 ∨ k = g2 ∨ k = g3 ∨ k = g4) w wr
  r1 : wr.there g1 0 (wn * 18)
  r2 : wr.there g2 0 (kn * 14)
  r3 : wr.there g3 0 (en * 3)
  r4 : wr.there g4 0 (pn * 2)
  lt : g1 < H ∧ g2 < H ∧ g3 < H ∧ g4 < H
theorem WpRel.store {w : World} {tk ro co : Int} {g1 g2 g3 g4 wn wc kn kc en ec pn pc : Nat} {sy sz : Value} {H : Nat} {wr : World} (h : WpRel w tk ro co g1 g2 g3 g4 wn wc kn kc en ec pn pc sy sz H wr) (g o : Nat) (cs : List Value) (hg : g = g1 ∨ g = g2 ∨ g = g3 ∨ g = g4) :
    WpRel w tk ro co g1 g2 g3 g4 wn wc kn kc en ec pn pc sy sz H (wr.setCells g o cs) := by
  have hk := Keep.setCells wr g o cs
  have hl := h.lt
  exact ⟨hk.old h.rb (by omega), h.keep.trans hk (fun _ _ h => h) (fun k _ e => by have e : k = g := e; rw [e]; exact hg), World.there_setCells h.r1 _ _ _, World.there_setCells h.r2 _ _ _, World.there_setCells h.r3 _ _ _, World.there_setCells h.r4 _ _ _, hl⟩
theorem one_Waiting : (#[.int .u8 0, .int .u8 0, .int .u8 0, .int .u8 0, .int .u8 0, .int .u8 0, .int .u8 0, .int .u8 0, .int .i16 0, .int .i16 0, .int .i16 0, .int .i16 0, .int .u8 0, .int .u8 0, .int .i64 0, .int .i64 0, .int .i64 0, .int .i64 (-7)] : Array Value).all (·.oneCell') = true := all_oneCell_toArray (cs := [.int .u8 0, .int .u8 0, .int .u8 0, .int .u8 0, .int .u8 0, .int .u8 0, .int .u8 0, .int .u8 0, .int .i16 0, .int .i16 0, .int .i16 0, .int .i16 0, .int .u8 0, .int .u8 0, .int .i64 0, .int .i64 0, .int .i64 0, .int .i64 (-7)]) (by intro v hv; simp only [List.mem_cons, List.not_mem_nil, or_false] at hv; rcases hv with rfl | rfl | rfl | rfl | rfl | rfl | rfl | rfl | rfl | rfl | rfl | rfl | rfl | rfl | rfl | rfl | rfl | rfl <;> rfl)
theorem one_Idle : (#[.int .u8 0, .int .u8 0, .int .u8 0, .int .u8 0, .int .u8 0, .int .u8 0, .int .u8 0, .int .u8 0, .int .i16 0, .int .i16 0, .int .u8 0, .int .u8 0, .int .i64 0, .int .i64 (-7)] : Array Value).all (·.oneCell') = true := all_oneCell_toArray (cs := [.int .u8 0, .int .u8 0, .int .u8 0, .int .u8 0, .int .u8 0, .int .u8 0, .int .u8 0, .int .u8 0, .int .i16 0, .int .i16 0, .int .u8 0, .int .u8 0, .int .i64 0, .int .i64 (-7)]) (by intro v hv; simp only [List.mem_cons, List.not_mem_nil, or_false] at hv; rcases hv with rfl | rfl | rfl | rfl | rfl | rfl | rfl | rfl | rfl | rfl | rfl | rfl | rfl | rfl <;> rfl)
theorem one_Edge : (#[.int .i64 0, .int .i64 0, .int .i64 (-7)] : Array Value).all (·.oneCell') = true := all_oneCell_toArray (cs := [.int .i64 0, .int .i64 0, .int .i64 (-7)]) (by intro v hv; simp only [List.mem_cons, List.not_mem_nil, or_false] at hv; rcases hv with rfl | rfl | rfl <;> rfl)
theorem one_Pair : (#[.int .i64 (-7), .int .i64 0] : Array Value).all (·.oneCell') = true := all_oneCell_toArray (cs := [.int .i64 (-7), .int .i64 0]) (by intro v hv; simp only [List.mem_cons, List.not_mem_nil, or_false] at hv; rcases hv with rfl | rfl <;> rfl)
theorem there_elem {w : World} {b n sz j : Nat} (h : w.there b 0 (n * sz)) (hj : j < n) : w.there b (j * sz) sz := by
  refine there_sub h ?_
  have : (j + 1) * sz ≤ n * sz := Nat.mul_le_mul_right _ hj
  rw [Nat.add_mul, Nat.one_mul] at this
  exact this

set_option maxHeartbeats 8000000 in
theorem wipe_any (w : World) (tk ro co : Int) (g1 g2 g3 g4 wn wc kn kc en ec pn pc : Nat) (sy sz : Value) (hb : wn ≤ 1048576 ∧ kn ≤ 1048576 ∧ en ≤ 1048576 ∧ pn ≤ 1048576) (hl : g1 < w.heap.size ∧ g2 < w.heap.size ∧ g3 < w.heap.size ∧ g4 < w.heap.size)
    (h1 : w.there g1 0 (wn * 18)) (h2 : w.there g2 0 (kn * 14)) (h3 : w.there g3 0 (en * 3)) (h4 : w.there g4 0 (pn * 2)) :
    Calls Tryz.prog 22 #[.agg #[.int .i64 tk, .slice (some ⟨g1, 0, none⟩) wn wc, .slice (some ⟨g2, 0, none⟩) kn kc, .int .i64 ro, .int .i64 co, .slice (some ⟨g3, 0, none⟩) en ec, .slice (some ⟨g4, 0, none⟩) pn pc, sy, sz]] w fun e w' => e = .returned (.tuple #[]) ∧ Keep (fun k => k = g1 ∨ k = g2 ∨ k = g3 ∨ k = g4) w w' := by
  have HB := (Below.refl w.heap.size w).alloc (Nat.le_refl _) (.cells #[.int .i64 tk, .slice (some ⟨g1, 0, none⟩) wn wc, .slice (some ⟨g2, 0, none⟩) kn kc, .int .i64 ro, .int .i64 co, .slice (some ⟨g3, 0, none⟩) en ec, .slice (some ⟨g4, 0, none⟩) pn pc, sy, sz] 34)
  have HW := Lib.hid (show WpRel w tk ro co g1 g2 g3 g4 wn wc kn kc en ec pn pc sy sz w.heap.size (w.alloc (.cells #[.int .i64 tk, .slice (some ⟨g1, 0, none⟩) wn wc, .slice (some ⟨g2, 0, none⟩) kn kc, .int .i64 ro, .int .i64 co, .slice (some ⟨g3, 0, none⟩) en ec, .slice (some ⟨g4, 0, none⟩) pn pc, sy, sz] 34)) from
    ⟨heap_alloc_new w _, Keep.of_below HB (Nat.le_refl _) _, there_below h1 HB, there_below h2 HB, there_below h3 HB, there_below h4 HB, hl⟩)
  obtain ⟨hb1, hb2, hb3, hb4⟩ := hb
  clear h1 h2 h3 h4 hl HB
  go_enter Tryz.func22, Tryz.ntmps22
  go_upto_region 1 with fail
  generalize w.alloc (.cells #[.int .i64 tk, .slice (some ⟨g1, 0, none⟩) wn wc, .slice (some ⟨g2, 0, none⟩) kn kc, .int .i64 ro, .int .i64 co, .slice (some ⟨g3, 0, none⟩) en ec, .slice (some ⟨g4, 0, none⟩) pn pc, sy, sz] 34) = W at *
  obtain ⟨H, hH⟩ : ∃ H, w.heap.size = H := ⟨_, rfl⟩
  rw [hH] at HW ⊢
  clear hH
  go_wp2_with fail
  go_loopw [2] (fun i wr => Hid (∃ j : Nat, i = .int .i64 j ∧ j ≤ wn ∧ WpRel w tk ro co g1 g2 g3 g4 wn wc kn kc en ec pn pc sy sz H wr)) (fun i _ => wn - (intOf i).toNat)
  case atStart => exact Lib.hid ⟨0, rfl, Nat.zero_le _, HW.out⟩
  case round =>
    obtain ⟨j, rfl, hj, hr⟩ := hrel.out
    clear hrel
    have HR1 := Lib.hid hr
    clear hr HW
    obtain ⟨q0, q1, q2, q3, q4, q5, q6, q7, q8⟩ := cells9 HR1.out.rb
    by_cases hlt : j < wn
    · have HT := Lib.hid (show wr.there g1 (j * 18) (#[.int .u8 0, .int .u8 0, .int .u8 0, .int .u8 0, .int .u8 0, .int .u8 0, .int .u8 0, .int .u8 0, .int .i16 0, .int .i16 0, .int .i16 0, .int .i16 0, .int .u8 0, .int .u8 0, .int .i64 0, .int .i64 0, .int .i64 0, .int .i64 (-7)] : Array Value).size from there_elem HR1.out.r1 hlt)
      have HN := Lib.hid (HR1.out.store g1 (j * 18) [.int .u8 0, .int .u8 0, .int .u8 0, .int .u8 0, .int .u8 0, .int .u8 0, .int .u8 0, .int .u8 0, .int .i16 0, .int .i16 0, .int .i16 0, .int .i16 0, .int .u8 0, .int .u8 0, .int .i64 0, .int .i64 0, .int .i64 0, .int .i64 (-7)] (by simp))
      go_wp2_with (first | ((with_reducible refine wpList_store_mid (op := ⟨none, .store 79 (.tmp 17) (.tmp 16), _, _, _, _⟩) ?_ 79 (.tmp 17) (.tmp 16) ?_ g1 (j * 18) #[.int .u8 0, .int .u8 0, .int .u8 0, .int .u8 0, .int .u8 0, .int .u8 0, .int .u8 0, .int .u8 0, .int .i16 0, .int .i16 0, .int .i16 0, .int .i16 0, .int .u8 0, .int .u8 0, .int .i64 0, .int .i64 0, .int .i64 0, .int .i64 (-7)] ?_ ?_ HT.out ?_ ?_ ?_); rfl; rfl; rfl; rfl; exact sz_wait; exact one_Waiting))
      clear q0 q1 q2 q3 q4 q5 q6 q7 q8
      go_roundw
      case rel => exact Lib.hid ⟨j + 1, by go_num, by omega, HN.out⟩
      case measure => simp [intOf]; omega
    · obtain rfl : wn = j := by omega
      go_wp2_with fail
      clear q0 q1 q2 q3 q4 q5 q6 q7 q8
      go_loopw [3] (fun i wr => Hid (∃ j : Nat, i = .int .i64 j ∧ j ≤ kn ∧ WpRel w tk ro co g1 g2 g3 g4 wn wc kn kc en ec pn pc sy sz H wr)) (fun i _ => kn - (intOf i).toNat)
      case atStart => exact Lib.hid ⟨0, rfl, Nat.zero_le _, HR1.out⟩
      case round =>
        obtain ⟨j, rfl, hj, hr⟩ := hrel.out
        clear hrel
        have HR2 := Lib.hid hr
        clear hr HR1
        obtain ⟨q0, q1, q2, q3, q4, q5, q6, q7, q8⟩ := cells9 HR2.out.rb
        by_cases hlt : j < kn
        · have HT := Lib.hid (show wr.there g2 (j * 14) (#[.int .u8 0, .int .u8 0, .int .u8 0, .int .u8 0, .int .u8 0, .int .u8 0, .int .u8 0, .int .u8 0, .int .i16 0, .int .i16 0, .int .u8 0, .int .u8 0, .int .i64 0, .int .i64 (-7)] : Array Value).size from there_elem HR2.out.r2 hlt)
          have HN := Lib.hid (HR2.out.store g2 (j * 14) [.int .u8 0, .int .u8 0, .int .u8 0, .int .u8 0, .int .u8 0, .int .u8 0, .int .u8 0, .int .u8 0, .int .i16 0, .int .i16 0, .int .u8 0, .int .u8 0, .int .i64 0, .int .i64 (-7)] (by simp))
          go_wp2_with (first | ((with_reducible refine wpList_store_mid (op := ⟨none, .store 83 (.tmp 29) (.tmp 28), _, _, _, _⟩) ?_ 83 (.tmp 29) (.tmp 28) ?_ g2 (j * 14) #[.int .u8 0, .int .u8 0, .int .u8 0, .int .u8 0, .int .u8 0, .int .u8 0, .int .u8 0, .int .u8 0, .int .i16 0, .int .i16 0, .int .u8 0, .int .u8 0, .int .i64 0, .int .i64 (-7)] ?_ ?_ HT.out ?_ ?_ ?_); rfl; rfl; rfl; rfl; exact sz_idle; exact one_Idle))
          clear q0 q1 q2 q3 q4 q5 q6 q7 q8
          go_roundw
          case rel => exact Lib.hid ⟨j + 1, by go_num, by omega, HN.out⟩
          case measure => simp [intOf]; omega
        · obtain rfl : kn = j := by omega
          go_wp2_with fail
          clear q0 q1 q2 q3 q4 q5 q6 q7 q8
          go_loopw [4] (fun i wr => Hid (∃ j : Nat, i = .int .i64 j ∧ j ≤ en ∧ WpRel w tk ro co g1 g2 g3 g4 wn wc kn kc en ec pn pc sy sz H wr)) (fun i _ => en - (intOf i).toNat)
          case atStart => exact Lib.hid ⟨0, rfl, Nat.zero_le _, HR2.out⟩
          case round =>
            obtain ⟨j, rfl, hj, hr⟩ := hrel.out
            clear hrel
            have HR3 := Lib.hid hr
            clear hr HR2
            obtain ⟨q0, q1, q2, q3, q4, q5, q6, q7, q8⟩ := cells9 HR3.out.rb
            by_cases hlt : j < en
            · have HT := Lib.hid (show wr.there g3 (j * 3) (#[.int .i64 0, .int .i64 0, .int .i64 (-7)] : Array Value).size from there_elem HR3.out.r3 hlt)
              have HN := Lib.hid (HR3.out.store g3 (j * 3) [.int .i64 0, .int .i64 0, .int .i64 (-7)] (by simp))
              go_wp2_with (first | ((with_reducible refine wpList_store_mid (op := ⟨none, .store 114 (.tmp 43) (.tmp 42), _, _, _, _⟩) ?_ 114 (.tmp 43) (.tmp 42) ?_ g3 (j * 3) #[.int .i64 0, .int .i64 0, .int .i64 (-7)] ?_ ?_ HT.out ?_ ?_ ?_); rfl; rfl; rfl; rfl; exact sz_edge; exact one_Edge))
              clear q0 q1 q2 q3 q4 q5 q6 q7 q8
              go_roundw
              case rel => exact Lib.hid ⟨j + 1, by go_num, by omega, HN.out⟩
              case measure => simp [intOf]; omega
            · obtain rfl : en = j := by omega
              go_wp2_with fail
              clear q0 q1 q2 q3 q4 q5 q6 q7 q8
              go_loopw [5] (fun i wr => Hid (∃ j : Nat, i = .int .i64 j ∧ j ≤ pn ∧ WpRel w tk ro co g1 g2 g3 g4 wn wc kn kc en ec pn pc sy sz H wr)) (fun i _ => pn - (intOf i).toNat)
              case atStart => exact Lib.hid ⟨0, rfl, Nat.zero_le _, HR3.out⟩
              case round =>
                obtain ⟨j, rfl, hj, hr⟩ := hrel.out
                clear hrel
                have HR4 := Lib.hid hr
                clear hr HR3
                obtain ⟨q0, q1, q2, q3, q4, q5, q6, q7, q8⟩ := cells9 HR4.out.rb
                by_cases hlt : j < pn
                · have HT := Lib.hid (show wr.there g4 (j * 2) (#[.int .i64 (-7), .int .i64 0] : Array Value).size from there_elem HR4.out.r4 hlt)
                  have HN := Lib.hid (HR4.out.store g4 (j * 2) [.int .i64 (-7), .int .i64 0] (by simp))
                  go_wp2_with (first | ((with_reducible refine wpList_store_mid (op := ⟨none, .store 69 (.tmp 57) (.tmp 56), _, _, _, _⟩) ?_ 69 (.tmp 57) (.tmp 56) ?_ g4 (j * 2) #[.int .i64 (-7), .int .i64 0] ?_ ?_ HT.out ?_ ?_ ?_); rfl; rfl; rfl; rfl; exact sz_pair; exact one_Pair))
                  clear q0 q1 q2 q3 q4 q5 q6 q7 q8
                  go_roundw
                  case rel => exact Lib.hid ⟨j + 1, by go_num, by omega, HN.out⟩
                  case measure => simp [intOf]; omega
                · obtain rfl : pn = j := by omega
                  go_wp2_with fail
                  clear q0 q1 q2 q3 q4 q5 q6 q7 q8
                  exact bodyPost_end (v := .tuple #[]) (by simp [results, Tryz.results22, go_sem]) rfl ⟨rfl, HR4.out.keep⟩
end Go.Proofs.YtcaicgipibcicaaGreat
