/- Plain facts on the calendar: the day behind a day. -/
import Derived.Test.YthjndgioalehcaaPlainB
namespace Go.Proofs.Ythjndgioalehcaa.Plain
theorem num_day (y m d : Int) : num y m (d + 1) = num y m d + 1 := by unfold num; omega
theorem num_month (y m : Int) (h0 : 1 ≤ m) (h1 : m ≤ 12) : num y (m + 1) 1 = num y m (long y m) + 1 := by
  have := cum_step y m h0 h1
  unfold num; omega
theorem num_year (y : Int) : num (y + 1) 1 1 = num y 12 31 + 1 := by
  have h1 := cum_step y 12 (by omega) (by omega)
  have h2 : long y 12 = 31 := by simp [long]
  have h3 := cum_end y
  have h4 := D_step (y - 1)
  rw [show y - 1 + 1 = y by omega] at h4
  rw [show (12 : Int) + 1 = 13 by omega] at h1
  unfold num
  rw [cum_one, show y + 1 - 1 = y by omega]
  omega
theorem num_last (y m d : Int) (h0 : 1 ≤ y) (h1 : y ≤ 9999) (hm0 : 1 ≤ m) (hm1 : m ≤ 12) (hd0 : 1 ≤ d) (hd1 : d ≤ long y m) (h : 2932896 ≤ num y m d) : y = 9999 ∧ m = 12 ∧ d = 31 := by
  have hr := num_range y m d h0 h1 hm0 hm1 hd0 hd1
  have e : num 9999 12 31 = 2932896 := by decide
  exact num_unique y m d 9999 12 31 hm0 hm1 hd0 hd1 (by omega) (by omega) (by omega) (by decide) (by omega)
theorem long_dec (y : Int) : long y 12 = 31 := by simp [long]
end Go.Proofs.Ythjndgioalehcaa.Plain
