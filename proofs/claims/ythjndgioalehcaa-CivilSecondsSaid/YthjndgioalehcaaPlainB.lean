/- Plain facts on the calendar: which day a place has (the program's way, cycles of 400 years). -/
import Derived.Test.YthjndgioalehcaaPlain
namespace Go.Proofs.Ythjndgioalehcaa.Plain

/-- What the program's Of comes to, part by part. -/
structure Parts (n q c f o r m : Int) : Prop where
  c0 : 0 ≤ c
  c1 : c ≤ 3
  f0 : 0 ≤ f
  f1 : f ≤ 24
  o0 : 0 ≤ o
  o1 : o ≤ 3
  r0 : 0 ≤ r
  r1 : r ≤ 365
  whole : n + 719468 = 146097 * q + 36524 * c + 1461 * f + 365 * o + r
  last : r = 365 → o = 3 ∧ (f = 24 → c = 3)
  m : m = (5 * r + 2) / 153
theorem parts (n rest q c r1 f r2 o r m : Int) (hr : rest = (n + 719468) % 146097) (hq : q = (n + 719468) / 146097)
    (hc : c = if 3 < rest / 36524 then 3 else rest / 36524) (h1 : r1 = rest - c * 36524) (hf : f = r1 / 1461) (h2 : r2 = r1 - f * 1461)
    (ho : o = if 3 < r2 / 365 then 3 else r2 / 365) (h3 : r = r2 - o * 365) (hm : m = (5 * r + 2) / 153) : Parts n q c f o r m := by
  split at hc <;> split at ho <;> exact ⟨by omega, by omega, by omega, by omega, by omega, by omega, by omega, by omega, by omega, by omega, hm⟩
def yearOf (q c f o m : Int) : Int := if 10 ≤ m then q * 400 + (c * 100 + f * 4 + o) + 1 else q * 400 + (c * 100 + f * 4 + o)
def monthOf (m : Int) : Int := (m + 2) % 12 + 1
def dayOf (r m : Int) : Int := r - (153 * m + 2) / 5 + 1
theorem Parts.months {n q c f o r m : Int} (h : Parts n q c f o r m) : m = 0 ∨ m = 1 ∨ m = 2 ∨ m = 3 ∨ m = 4 ∨ m = 5 ∨ m = 6 ∨ m = 7 ∨ m = 8 ∨ m = 9 ∨ m = 10 ∨ m = 11 := by
  have := h.m; have := h.r0; have := h.r1; omega
theorem Parts.month {n q c f o r m : Int} (_h : Parts n q c f o r m) : 1 ≤ monthOf m ∧ monthOf m ≤ 12 := by unfold monthOf; omega
theorem Parts.D_eq {n q c f o r m : Int} (h : Parts n q c f o r m) : D (q * 400 + (c * 100 + f * 4 + o)) = 146097 * q + 36524 * c + 1461 * f + 365 * o := by
  obtain ⟨c0, c1, f0, f1, o0, o1, -, -, -, -, -⟩ := h
  unfold D
  omega
theorem Parts.num {n q c f o r m : Int} (h : Parts n q c f o r m) : num (yearOf q c f o m) (monthOf m) (dayOf r m) = n := by
  obtain ⟨hm0, hm1⟩ := h.month
  rw [← num_march _ _ _ hm0 hm1]
  have hD := h.D_eq
  have hw := h.whole
  have hs := h.months
  have e : (monthOf m + 9) % 12 = m := by unfold monthOf; omega
  rw [e]
  have ey : (if 10 ≤ m then yearOf q c f o m - 1 else yearOf q c f o m) = q * 400 + (c * 100 + f * 4 + o) := by unfold yearOf; split <;> omega
  rw [ey, hD]
  unfold dayOf
  omega
theorem Parts.leap {n q c f o r m : Int} (h : Parts n q c f o r m) (hr : r = 365) : leap (q * 400 + (c * 100 + f * 4 + o) + 1) = true := by
  obtain ⟨c0, c1, f0, f1, o0, o1, -, -, -, hl, -⟩ := h
  obtain ⟨h3, h4⟩ := hl hr
  rw [leap_iff]
  by_cases hf : f = 24
  · have := h4 hf; omega
  · omega
theorem Parts.day {n q c f o r m : Int} (h : Parts n q c f o r m) : 1 ≤ dayOf r m ∧ dayOf r m ≤ long (yearOf q c f o m) (monthOf m) := by
  have hs := h.months
  have r0 := h.r0
  have r1 := h.r1
  have hm := h.m
  have hl := h.leap
  unfold dayOf
  refine ⟨by omega, ?_⟩
  rcases hs with e | e | e | e | e | e | e | e | e | e | e | e <;> subst e
  all_goals simp only [monthOf, yearOf, long]
  all_goals simp
  all_goals try omega
  split
  · omega
  · rename_i hn
    have : r ≠ 365 := fun e => hn (hl e)
    omega
theorem Parts.year {n q c f o r m : Int} (h : Parts n q c f o r m) (h0 : -719162 ≤ n) (h1 : n ≤ 2932896) : 1 ≤ yearOf q c f o m ∧ yearOf q c f o m ≤ 9999 := by
  have hn := h.num
  obtain ⟨hm0, hm1⟩ := h.month
  obtain ⟨hd0, hd1⟩ := h.day
  have s1 := cum_step (yearOf q c f o m) (monthOf m) hm0 hm1
  have e1 := cum_mono (yearOf q c f o m) (monthOf m + 1) 13 (by omega) (by omega) (by omega)
  rw [cum_end] at e1
  have z1 := cum_bd (yearOf q c f o m) (monthOf m) (by omega)
  have w1 := D_step (yearOf q c f o m - 1)
  rw [show yearOf q c f o m - 1 + 1 = yearOf q c f o m by omega] at w1
  have d0 := D_lo
  have d9 := D_hi
  unfold Plain.num at hn
  generalize yearOf q c f o m = y at *
  refine ⟨?_, ?_⟩
  · by_cases c : 1 ≤ y
    · exact c
    · have := D_mono y 0 (by omega); omega
  · by_cases c : y ≤ 9999
    · exact c
    · have := D_mono 9999 (y - 1) (by omega); omega
end Go.Proofs.Ythjndgioalehcaa.Plain
