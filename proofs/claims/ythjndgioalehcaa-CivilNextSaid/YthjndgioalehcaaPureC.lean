/- What Seconds and Date come to, and how they go together. -/
import Derived.Test.YthjndgioalehcaaQ5
import Derived.Test.YthjndgioalehcaaExtC
import Derived.Test.YthjndgioalehcaaPlainC
namespace Go.Proofs.Ythjndgioalehcaa.Pure
open Go.RowKit Go.Proofs.Ythjndgioalehcaa.Q Go.Proofs.YthjndgioalehcaaW.PrintWords Go.Proofs.YthjndgioalehcaaW.PrintLast
open Plain

theorem ofI_num (y m d : Int) (h : right y m d = true) : ofI (num y m d) = (y, m, d, true) := by
  obtain ⟨m0, m1⟩ := month_in _ _ _ h
  have hb := num_bd _ _ _ h
  obtain ⟨y', m', d', he, hr, hn, _⟩ := ofI_yes (num y m d) hb.1 hb.2
  obtain ⟨m0', m1'⟩ := month_in _ _ _ hr
  have a := (right_iff _ _ _).1 h
  have b := (right_iff _ _ _).1 hr
  obtain ⟨rfl, rfl, rfl⟩ := num_unique y m d y' m' d' m0 m1 a.2.2.1 a.2.2.2 m0' m1' b.2.2.1 b.2.2.2 hn.symm
  exact he
theorem secI_yes {a0 a1 a2 a3 a4 a5 : Int} (h : right a0 a1 a2 = true) (hi : inTime a3 a4 a5 = true) : secI a0 a1 a2 a3 a4 a5 = (num a0 a1 a2 * 86400 + a3 * 3600 + a4 * 60 + a5, true) := if_pos ⟨h, hi⟩
theorem secI_no {a0 a1 a2 a3 a4 a5 : Int} (h : ¬ (right a0 a1 a2 = true ∧ inTime a3 a4 a5 = true)) : secI a0 a1 a2 a3 a4 a5 = (0, false) := if_neg h
theorem rSeconds_is (a0 a1 a2 a3 a4 a5 : Int) : Ev (fun k => abutmentref05_Seconds.f k a0 a1 a2 a3 a4 a5) (secI a0 a1 a2 a3 a4 a5) := by
  by_cases hr : right a0 a1 a2 = true
  · have hb := num_bd _ _ _ hr
    refine Ev.bind (f := fun _ b => if b.2 = true then (if a3 < 0 then (some (0, false)) else (if a3 > 23 then (some (0, false)) else (if a4 < 0 then (some (0, false)) else (if a4 > 59 then (some (0, false)) else (if a5 < 0 then (some (0, false)) else (if a5 > 59 then (some (0, false)) else (some (wrap64 ((wrap64 ((wrap64 ((wrap64 (b.1 * 86400)) + (wrap64 (a3 * 3600)))) + (wrap64 (a4 * 60)))) + a5), true)))))))) else (some (0, false))) (rDays_yes a0 a1 a2 hr) ?_
    simp only [if_true]
    by_cases hi : inTime a3 a4 a5 = true
    · rw [secI_yes hr hi]
      rw [inTime_iff] at hi
      generalize num a0 a1 a2 = N at *
      refine Ev.congr (fun _ => ?_) (Ev.now _)
      rw [if_neg (by omega), if_neg (by omega), if_neg (by omega), if_neg (by omega), if_neg (by omega), if_neg (by omega)]
      simp (disch := omega) only [wI]
    · rw [secI_no (fun h => hi h.2)]
      rw [inTime_iff] at hi
      refine Ev.congr (fun _ => ?_) (Ev.now _)
      by_cases c1 : a3 < 0
      · rw [if_pos c1]
      · rw [if_neg c1]
        by_cases c2 : a3 > 23
        · rw [if_pos c2]
        · rw [if_neg c2]
          by_cases c3 : a4 < 0
          · rw [if_pos c3]
          · rw [if_neg c3]
            by_cases c4 : a4 > 59
            · rw [if_pos c4]
            · rw [if_neg c4]
              by_cases c5 : a5 < 0
              · rw [if_pos c5]
              · rw [if_neg c5, if_pos (by omega)]
  · refine Ev.bind (f := fun _ b => if b.2 = true then (if a3 < 0 then (some (0, false)) else (if a3 > 23 then (some (0, false)) else (if a4 < 0 then (some (0, false)) else (if a4 > 59 then (some (0, false)) else (if a5 < 0 then (some (0, false)) else (if a5 > 59 then (some (0, false)) else (some (wrap64 ((wrap64 ((wrap64 ((wrap64 (b.1 * 86400)) + (wrap64 (a3 * 3600)))) + (wrap64 (a4 * 60)))) + a5), true)))))))) else (some (0, false))) (rDays_no a0 a1 a2 hr) ?_
    rw [secI_no (fun h => hr h.1)]
    simp only [Bool.false_eq_true, if_false]
    exact Ev.now _
theorem dateF_wf (s : Int) (h : (Lit.int .i64 s).wf = true) : dateF s = some (dateI s) := if_pos (bd_of_wf h)
/-- A date comes back from its seconds. -/
theorem secI_dateI (s : Int) (y m d h mi se : Int) (hd : dateI s = (y, m, d, h, mi, se, true)) : secI y m d h mi se = (s, true) := by
  rcases ofI_cases (s / 86400) with ⟨y', m', d', ho⟩ | ho
  · rw [dateI_yes ho] at hd
    simp only [Prod.mk.injEq, and_true] at hd
    obtain ⟨rfl, rfl, rfl, rfl, rfl, rfl⟩ := hd
    have hin : -719162 ≤ s / 86400 ∧ s / 86400 ≤ 2932896 := by
      by_cases c : -719162 ≤ s / 86400 ∧ s / 86400 ≤ 2932896
      · exact c
      · rw [ofI_no _ (by omega)] at ho; simp at ho
    obtain ⟨y2, m2, d2, he, hr, hn, _⟩ := ofI_yes _ hin.1 hin.2
    rw [ho] at he
    simp only [Prod.mk.injEq, and_true] at he
    obtain ⟨rfl, rfl, rfl⟩ := he
    have hi : inTime (s % 86400 / 3600) (s % 86400 / 60 % 60) (s % 86400 % 60) = true := by rw [inTime_iff]; omega
    rw [secI_yes hr hi, hn]
    simp only [Prod.mk.injEq, and_true]
    omega
  · rw [dateI_no ho] at hd
    simp at hd
end Go.Proofs.Ythjndgioalehcaa.Pure
