/- CivilOf: for every number of days the program's Of and Weekday answer as the reference's do, and the document's examples hold. No condition. -/
import Derived.Test.YthjndgioalehcaaPureB
namespace Go.Proofs.Ythjndgioalehcaa.Pure
open Go.RowKit Go.Proofs.Ythjndgioalehcaa.Q Go.Proofs.YthjndgioalehcaaW.PrintWords Go.Proofs.YthjndgioalehcaaW.PrintLast
open Plain

theorem CivilOf : abutmentlaw05_CivilOf.Pure := by
  intro n _
  by_cases h : -719162 ≤ n ∧ n ≤ 2932896
  · obtain ⟨y, m, d, hr, hn, hE⟩ := Of_yes n h.1 h.2
    have hR := rOf_yes y m d hr
    rw [hn] at hR
    obtain ⟨K, hK⟩ := hE
    obtain ⟨L, hL⟩ := hR
    refine ⟨K + L, ?_⟩
    simp [abutmentlaw05_CivilOf.f, hK (K + L) (by omega), hL (K + L) (by omega), Weekday_eq, Weekday_val, lives_yes]
  · obtain ⟨K, hK⟩ := Of_no n (by omega)
    obtain ⟨L, hL⟩ := rOf_no n (by omega)
    refine ⟨K + L, ?_⟩
    simp [abutmentlaw05_CivilOf.f, hK (K + L) (by omega), hL (K + L) (by omega), Weekday_eq, Weekday_val, lives_yes]
end Go.Proofs.Ythjndgioalehcaa.Pure
