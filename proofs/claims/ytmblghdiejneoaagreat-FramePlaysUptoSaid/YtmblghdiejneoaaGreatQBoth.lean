/- Resume and the reference's Resume: both make the same decoder, or both refuse. -/
import Derived.Test.YtmblghdiejneoaaGreatQRResume
namespace Go.Proofs.YtmblghdiejneoaaGreat
set_option maxRecDepth 100000
open Go.RowKit

def BothOk (fed ba bs : Int) (S : ByteArray) (c : Bool) : Prop :=
  ∃ d : DSt, ROk d ∧ fed = d.fed ∧ ba = d.ba ∧ bs = d.bs ∧ S = ⟨d.rest.toArray⟩ ∧ c = d.closed ∧ ∀ w, Calls Tryz.prog 107 #[.int .i64 fed, .agg #[.int .i64 ba, .int .i64 bs], .string S, .bool c] w (ROkPost w fed ba bs S c)
def BothBad (fed ba bs : Int) (S : ByteArray) (c : Bool) : Prop :=
  (∀ w, Calls Tryz.prog 106 #[.int .i64 fed, .agg #[.int .i64 ba, .int .i64 bs], .string S, .bool c] w (BadPost w)) ∧
  ∀ w, Calls Tryz.prog 107 #[.int .i64 fed, .agg #[.int .i64 ba, .int .i64 bs], .string S, .bool c] w (BadPost w)

theorem bytes_nil {S : ByteArray} (h : S.toList = []) : S = ⟨#[]⟩ := by
  have h1 : S.data.toList = [] := by rw [← Lib.toList_data]; exact h
  obtain ⟨a⟩ := S
  have : a = #[] := by simpa using h1
  rw [this]

theorem open_rok (fed ba bs : Int) (S : ByteArray) (g0 : 0 ≤ fed) (g1 : fed ≤ 4611686018427387903) (g2 : (S.size : Int) ≤ fed) (ho : S.data.toList = [] ∨ (wholeF S.data.toList).2 = true)
    (hz : (ba = 0 ∧ bs = 0 ∧ (fed - S.size ≤ 0 ∨ 8 ≤ fed - (S.size : Int))) ∨ (1 ≤ bs ∧ 0 ≤ ba ∧ ba = fed - S.size - bs ∧ (ba ≤ 0 ∨ 8 ≤ ba)))
    (hc : ∀ w, Calls Tryz.prog 107 #[.int .i64 fed, .agg #[.int .i64 ba, .int .i64 bs], .string S, .bool false] w (ROkPost w fed ba bs S false)) : BothOk fed ba bs S false := by
  have hl : S.data.toList.length = S.size := by simp
  refine ⟨⟨false, fed.toNat, ba.toNat, bs.toNat, S.data.toList⟩, ⟨?_, ?_, ?_, ?_, ?_, fun _ => ho, fun h => by simp at h⟩, ?_, ?_, ?_, (bytes_eta S).symm, rfl, hc⟩
  · simp only [hl]; omega
  · simp only; omega
  · intro h; simp only at h ⊢; omega
  · intro h; simp only [hl] at h ⊢; omega
  · intro _
    simp only [hl, aheadOf]
    split <;> omega
  · simp only; omega
  · simp only; omega
  · simp only; omega

theorem both_any (fed ba bs : Int) (S : ByteArray) (c : Bool) (hS : S.size ≤ 10000000000) : BothOk fed ba bs S c ∨ BothBad fed ba bs S c := by
  by_cases a1 : fed < 0
  · exact .inr ⟨fun w => resume_a1 w fed ba bs S c a1, fun w => rresume_a1 w fed ba bs S c a1⟩
  have g0 : 0 ≤ fed := by omega
  by_cases a2 : 4611686018427387903 < fed
  · exact .inr ⟨fun w => resume_a2 w fed ba bs S c g0 a2, fun w => rresume_a2 w fed ba bs S c g0 a2⟩
  have g1 : fed ≤ 4611686018427387903 := by omega
  by_cases a3 : fed < (S.size : Int)
  · exact .inr ⟨fun w => resume_a3 w fed ba bs S c g0 g1 a3, fun w => rresume_a3 w fed ba bs S c g0 g1 a3⟩
  have g2 : (S.size : Int) ≤ fed := by omega
  have htl : S.data.toList = S.toList := (Lib.toList_data S).symm
  by_cases hz : ba = 0 ∧ bs = 0
  · obtain ⟨rfl, rfl⟩ := hz
    by_cases he : S.toList = []
    · cases c with
      | true =>
        obtain rfl := bytes_nil he
        exact .inl ⟨⟨true, fed.toNat, 0, 0, []⟩, closed_rok _ (by omega), by simp only; omega, rfl, rfl, rfl, rfl, fun w => rresume_o1 w fed g0 g1⟩
      | false =>
        have ho : S.data.toList = [] ∨ (wholeF S.data.toList).2 = true := .inl (htl.trans he)
        by_cases k1 : fed - (S.size : Int) ≤ 0
        · exact .inl (open_rok fed 0 0 S g0 g1 g2 ho (.inl ⟨rfl, rfl, .inl k1⟩) (fun w => rresume_o2 w fed S g0 g1 g2 hS ho k1))
        by_cases k2 : 8 ≤ fed - (S.size : Int)
        · exact .inl (open_rok fed 0 0 S g0 g1 g2 ho (.inl ⟨rfl, rfl, .inr k2⟩) (fun w => rresume_o3 w fed S g0 g1 g2 hS ho k2))
        exact .inr ⟨fun w => resume_d3 w fed S g0 g1 g2 hS he (by omega) (by omega), fun w => rresume_d3 w fed S g0 g1 g2 hS he (by omega) (by omega)⟩
    · cases c with
      | true => exact .inr ⟨fun w => resume_c1 w fed S g0 g1 g2 he, fun w => rresume_c1 w fed S g0 g1 g2 he⟩
      | false =>
        cases ho : (wholeF S.data.toList).2 with
        | false => exact .inr ⟨fun w => resume_d1 w fed S g0 g1 g2 hS he ho, fun w => rresume_d1 w fed S g0 g1 g2 hS he ho⟩
        | true =>
          by_cases k1 : fed - (S.size : Int) ≤ 0
          · exact .inl (open_rok fed 0 0 S g0 g1 g2 (.inr ho) (.inl ⟨rfl, rfl, .inl k1⟩) (fun w => rresume_o2 w fed S g0 g1 g2 hS (.inr ho) k1))
          by_cases k2 : 8 ≤ fed - (S.size : Int)
          · exact .inl (open_rok fed 0 0 S g0 g1 g2 (.inr ho) (.inl ⟨rfl, rfl, .inr k2⟩) (fun w => rresume_o3 w fed S g0 g1 g2 hS (.inr ho) k2))
          exact .inr ⟨fun w => resume_d5 w fed S g0 g1 g2 hS he ho (by omega) (by omega), fun w => rresume_d5 w fed S g0 g1 g2 hS he ho (by omega) (by omega)⟩
  · have hq : bqS ba 0 bs 0 = false := by
      unfold bqS
      simp
      intro h1 h2
      exact hz ⟨h1, h2⟩
    by_cases b1 : bs < 1
    · exact .inr ⟨fun w => resume_b1 w fed ba bs S c g0 g1 g2 hq b1, fun w => rresume_b1 w fed ba bs S c g0 g1 g2 hq b1⟩
    have h1 : 1 ≤ bs := by omega
    by_cases b2 : fed - S.size < bs
    · exact .inr ⟨fun w => resume_b2 w fed ba bs S c g0 g1 g2 hq h1 b2, fun w => rresume_b2 w fed ba bs S c g0 g1 g2 hq h1 b2⟩
    have h2 : bs ≤ fed - S.size := by omega
    cases h3 : (ba != fed - (S.size : Int) - bs) with
    | true => exact .inr ⟨fun w => resume_b3 w fed ba bs S c g0 g1 g2 hq h1 h2 h3, fun w => rresume_b3 w fed ba bs S c g0 g1 g2 hq h1 h2 h3⟩
    | false =>
      have hba : ba = fed - S.size - bs := by simpa using h3
      by_cases he : S.toList = []
      · cases c with
        | true => exact .inr ⟨fun w => resume_c3 w fed ba bs S g0 g1 g2 hq h1 h2 h3 he, fun w => rresume_c3 w fed ba bs S g0 g1 g2 hq h1 h2 h3 he⟩
        | false =>
          have ho : S.data.toList = [] ∨ (wholeF S.data.toList).2 = true := .inl (htl.trans he)
          by_cases k1 : ba ≤ 0
          · exact .inl (open_rok fed ba bs S g0 g1 g2 ho (.inr ⟨h1, by omega, hba, .inl k1⟩) (fun w => rresume_o4 w fed ba bs S g0 g1 g2 hS hq h1 h2 h3 ho k1))
          by_cases k2 : 8 ≤ ba
          · exact .inl (open_rok fed ba bs S g0 g1 g2 ho (.inr ⟨h1, by omega, hba, .inr k2⟩) (fun w => rresume_o5 w fed ba bs S g0 g1 g2 hS hq h1 h2 h3 ho k2))
          exact .inr ⟨fun w => resume_d4 w fed ba bs S g0 g1 g2 hS hq h1 h2 h3 he (by omega) (by omega), fun w => rresume_d4 w fed ba bs S g0 g1 g2 hS hq h1 h2 h3 he (by omega) (by omega)⟩
      · cases c with
        | true => exact .inr ⟨fun w => resume_c2 w fed ba bs S g0 g1 g2 hq h1 h2 h3 he, fun w => rresume_c2 w fed ba bs S g0 g1 g2 hq h1 h2 h3 he⟩
        | false =>
          cases ho : (wholeF S.data.toList).2 with
          | false => exact .inr ⟨fun w => resume_d2 w fed ba bs S g0 g1 g2 hS hq h1 h2 h3 he ho, fun w => rresume_d2 w fed ba bs S g0 g1 g2 hS hq h1 h2 h3 he ho⟩
          | true =>
            by_cases k1 : ba ≤ 0
            · exact .inl (open_rok fed ba bs S g0 g1 g2 (.inr ho) (.inr ⟨h1, by omega, hba, .inl k1⟩) (fun w => rresume_o4 w fed ba bs S g0 g1 g2 hS hq h1 h2 h3 (.inr ho) k1))
            by_cases k2 : 8 ≤ ba
            · exact .inl (open_rok fed ba bs S g0 g1 g2 (.inr ho) (.inr ⟨h1, by omega, hba, .inr k2⟩) (fun w => rresume_o5 w fed ba bs S g0 g1 g2 hS hq h1 h2 h3 (.inr ho) k2))
            exact .inr ⟨fun w => resume_d6 w fed ba bs S g0 g1 g2 hS hq h1 h2 h3 he ho (by omega) (by omega), fun w => rresume_d6 w fed ba bs S g0 g1 g2 hS hq h1 h2 h3 he ho (by omega) (by omega)⟩
end Go.Proofs.YtmblghdiejneoaaGreat
