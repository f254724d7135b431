/- CivilDays: for every year, month and day the program's Days, Leap and Long answer as the reference's do, and the document's examples hold. No condition. -/
import Derived.Test.YthjndgioalehcaaQ4
import Derived.Test.YthjndgioalehcaaPureA
namespace Go.Proofs.Ythjndgioalehcaa.Pure
open Go.RowKit Go.Proofs.Ythjndgioalehcaa.Q Go.Proofs.YthjndgioalehcaaW.PrintWords Go.Proofs.YthjndgioalehcaaW.PrintLast
open Plain

theorem lives_eq : abutmentlaw05_lives.f = some true := by
  have h1 : right 2000 3 1 = true := by decide
  have h2 : right 1970 1 2 = true := by decide
  have n1 : num 2000 3 1 = 11017 := by decide
  have n2 : num 1970 1 2 = 1 := by decide
  have n3 : long 2000 2 = 29 := by decide
  have w : civil_Weekday.f 11017 = some 3 := by rw [civil_Weekday.f, show Int.tmod 11017 7 + 11 = 17 from by decide, wI 17 (by omega) (by omega)]; decide
  simp [abutmentlaw05_lives.f, Days_yes _ _ _ h1, Days_yes _ _ _ h2, n1, n2, w, Long_eq, n3]

theorem CivilDays : abutmentlaw05_CivilDays.Pure := by
  intro y m d _ _ _
  refine Ev.rounds ?_
  by_cases h : right y m d = true
  · refine Ev.congr (f := fun k => (abutmentref05_Days.f k y m d).bind fun b => if num y m d = b.1 then (if (true == b.2) = true then ((abutmentref05_Long.f k y m).bind fun t => if long y m = t then some true else some false) else some false) else some false) (fun k => ?_) ?_
    · simp [abutmentlaw05_CivilDays.f, Days_yes _ _ _ h, Leap_eq, rLeap_eq, Long_eq, lives_eq]
    · refine Ev.bind (f := fun k b => if num y m d = b.1 then (if (true == b.2) = true then ((abutmentref05_Long.f k y m).bind fun t => if long y m = t then some true else some false) else some false) else some false) (rDays_yes y m d h) ?_
      simp only [BEq.rfl, if_true]
      refine Ev.bind (f := fun k t => if long y m = t then some true else some false) (rLong_ev y m) ?_
      simp only [if_true]
      exact Ev.now _
  · refine Ev.congr (f := fun k => (abutmentref05_Days.f k y m d).bind fun b => if 0 = b.1 then (if (false == b.2) = true then ((abutmentref05_Long.f k y m).bind fun t => if long y m = t then some true else some false) else some false) else some false) (fun k => ?_) ?_
    · simp [abutmentlaw05_CivilDays.f, Days_no _ _ _ h, Leap_eq, rLeap_eq, Long_eq, lives_eq]
    · refine Ev.bind (f := fun k b => if 0 = b.1 then (if (false == b.2) = true then ((abutmentref05_Long.f k y m).bind fun t => if long y m = t then some true else some false) else some false) else some false) (rDays_no y m d h) ?_
      simp only [BEq.rfl, if_true]
      refine Ev.bind (f := fun k t => if long y m = t then some true else some false) (rLong_ev y m) ?_
      simp only [if_true]
      exact Ev.now _
end Go.Proofs.Ythjndgioalehcaa.Pure
