/- Plain facts on the calendar: no program in sight. -/
import Derived.RowKit
namespace Go.Proofs.Ythjndgioalehcaa.Plain

def leap (y : Int) : Bool := (y % 4 == 0) && (!(y % 100 == 0) || (y % 400 == 0))
theorem leap_iff (y : Int) : leap y = true ↔ (y % 4 = 0 ∧ (y % 100 ≠ 0 ∨ y % 400 = 0)) := by simp [leap]
theorem leap_not (y : Int) : leap y = false ↔ ¬ (y % 4 = 0 ∧ (y % 100 ≠ 0 ∨ y % 400 = 0)) := by
  rw [← leap_iff]; simp
def whole (y : Int) : Int := if leap y = true then 366 else 365
/-- How many days end with year y. -/
def D (y : Int) : Int := 365 * y + y / 4 - y / 100 + y / 400
theorem D_step (y : Int) : D (y + 1) = D y + whole (y + 1) := by
  unfold whole D
  by_cases h : leap (y + 1) = true
  · rw [if_pos h]; rw [leap_iff] at h; omega
  · rw [if_neg h]; rw [leap_iff] at h; omega
theorem whole_bd (y : Int) : 365 ≤ whole y ∧ whole y ≤ 366 := by unfold whole; split <;> omega
/-- How long a month is. -/
def long (y m : Int) : Int :=
  if m < 1 ∨ 12 < m then 0 else if m = 2 then (if leap y = true then 29 else 28) else if m = 4 ∨ m = 6 ∨ m = 9 ∨ m = 11 then 30 else 31
theorem long_bd (y m : Int) : 0 ≤ long y m ∧ long y m ≤ 31 := by unfold long; repeat' split <;> omega
theorem long_pos (y m : Int) (h0 : 1 ≤ m) (h1 : m ≤ 12) : 28 ≤ long y m := by
  unfold long; rw [if_neg (by omega)]; repeat' split <;> omega
/-- How many days of a year are before a month. -/
def cum (y m : Int) : Int :=
  let l := whole y - 365
  if m ≤ 1 then 0 else if m = 2 then 31 else if m = 3 then 59 + l else if m = 4 then 90 + l else if m = 5 then 120 + l else if m = 6 then 151 + l else if m = 7 then 181 + l else if m = 8 then 212 + l else if m = 9 then 243 + l else if m = 10 then 273 + l else if m = 11 then 304 + l else if m = 12 then 334 + l else 365 + l
theorem month_cases (m : Int) (h0 : 1 ≤ m) (h1 : m ≤ 12) : m = 1 ∨ m = 2 ∨ m = 3 ∨ m = 4 ∨ m = 5 ∨ m = 6 ∨ m = 7 ∨ m = 8 ∨ m = 9 ∨ m = 10 ∨ m = 11 ∨ m = 12 := by omega
theorem cum_step (y m : Int) (h0 : 1 ≤ m) (h1 : m ≤ 12) : cum y (m + 1) = cum y m + long y m := by
  have hw : whole y = 365 + (if leap y = true then 1 else 0) := by unfold whole; split <;> rfl
  rcases month_cases m h0 h1 with rfl | rfl | rfl | rfl | rfl | rfl | rfl | rfl | rfl | rfl | rfl | rfl <;> simp [cum, long, hw] <;> (try split) <;> omega
theorem cum_bd (y m : Int) (h1 : m ≤ 13) : 0 ≤ cum y m ∧ cum y m ≤ 366 := by
  have hb := whole_bd y
  by_cases h0 : m ≤ 1
  · simp [cum, h0]
  · rcases (show m = 2 ∨ m = 3 ∨ m = 4 ∨ m = 5 ∨ m = 6 ∨ m = 7 ∨ m = 8 ∨ m = 9 ∨ m = 10 ∨ m = 11 ∨ m = 12 ∨ m = 13 by omega) with rfl | rfl | rfl | rfl | rfl | rfl | rfl | rfl | rfl | rfl | rfl | rfl <;> simp [cum] <;> omega
theorem cum_one (y : Int) : cum y 1 = 0 := rfl
theorem cum_end (y : Int) : cum y 13 = whole y := by unfold cum; simp; omega
/-- The day's place, as the document counts it. -/
def num (y m d : Int) : Int := d - 1 + (D (y - 1) - 719162) + cum y m
theorem D_mono1 (y : Int) (n : Nat) : D y ≤ D (y + n) := by
  induction n with
  | zero => simp
  | succ n ih => have := D_step (y + n); have := whole_bd (y + n + 1); rw [show y + ((n + 1 : Nat) : Int) = y + n + 1 by omega]; omega
theorem D_mono (a b : Int) (h : a ≤ b) : D a ≤ D b := by
  obtain ⟨n, hn⟩ := Int.eq_ofNat_of_zero_le (show 0 ≤ b - a by omega)
  have := D_mono1 a n
  rw [show b = a + n by omega]; exact this
theorem D_lo : D 0 = 0 := rfl
theorem D_hi : D 9999 = 3652059 := rfl
theorem D_69 : D 1969 = 719162 := rfl
/-- The program's way: years from March on. -/
theorem num_march (y m d : Int) (h0 : 1 ≤ m) (h1 : m ≤ 12) :
    D (if 10 ≤ (m + 9) % 12 then y - 1 else y) + (153 * ((m + 9) % 12) + 2) / 5 + d - 1 - 719468 = num y m d := by
  have hs := D_step (y - 1)
  rw [show y - 1 + 1 = y by omega] at hs
  unfold num
  rcases month_cases m h0 h1 with rfl | rfl | rfl | rfl | rfl | rfl | rfl | rfl | rfl | rfl | rfl | rfl <;> simp [cum] <;> omega
/-- One day has one place. -/
theorem year_unique (a b n : Int) (ha : D (a - 1) ≤ n) (ha' : n < D a) (hb : D (b - 1) ≤ n) (hb' : n < D b) : a = b := by
  rcases Int.lt_trichotomy a b with h | h | h
  · have := D_mono a (b - 1) (by omega); omega
  · exact h
  · have := D_mono b (a - 1) (by omega); omega
theorem cum_mono (y a b : Int) (h0 : 1 ≤ a) (h : a ≤ b) (h1 : b ≤ 13) : cum y a ≤ cum y b := by
  have key : ∀ n : Nat, a + n ≤ 13 → cum y a ≤ cum y (a + n) := by
    intro n
    induction n with
    | zero => intro _; simp
    | succ n ih =>
      intro hn
      have := cum_step y (a + n) (by omega) (by omega)
      have := long_bd y (a + n)
      have := ih (by omega)
      rw [show a + ((n + 1 : Nat) : Int) = a + n + 1 by omega]; omega
  have := key (b - a).toNat (by omega)
  rwa [show a + ((b - a).toNat : Int) = b by omega] at this
theorem month_unique (y a b n : Int) (ha0 : 1 ≤ a) (ha1 : a ≤ 12) (hb0 : 1 ≤ b) (hb1 : b ≤ 12) (ha : cum y a ≤ n) (ha' : n < cum y (a + 1)) (hb : cum y b ≤ n) (hb' : n < cum y (b + 1)) : a = b := by
  rcases Int.lt_trichotomy a b with h | h | h
  · have := cum_mono y (a + 1) b (by omega) (by omega) (by omega); omega
  · exact h
  · have := cum_mono y (b + 1) a (by omega) (by omega) (by omega); omega
theorem num_unique (y m d y' m' d' : Int) (hm0 : 1 ≤ m) (hm1 : m ≤ 12) (hd0 : 1 ≤ d) (hd1 : d ≤ long y m) (hm0' : 1 ≤ m') (hm1' : m' ≤ 12) (hd0' : 1 ≤ d') (hd1' : d' ≤ long y' m') (h : num y m d = num y' m' d') : y = y' ∧ m = m' ∧ d = d' := by
  have s1 := cum_step y m hm0 hm1
  have s2 := cum_step y' m' hm0' hm1'
  have e1 := cum_mono y (m + 1) 13 (by omega) (by omega) (by omega)
  have e2 := cum_mono y' (m' + 1) 13 (by omega) (by omega) (by omega)
  have z1 := cum_bd y m (by omega)
  have z2 := cum_bd y' m' (by omega)
  rw [cum_end] at e1 e2
  have w1 := D_step (y - 1)
  have w2 := D_step (y' - 1)
  rw [show y - 1 + 1 = y by omega] at w1
  rw [show y' - 1 + 1 = y' by omega] at w2
  unfold num at h
  have hy : y = y' := year_unique y y' (d - 1 + D (y - 1) + cum y m) (by omega) (by omega) (by omega) (by omega)
  subst hy
  have hm : m = m' := month_unique y m m' (d - 1 + cum y m) hm0 hm1 hm0' hm1' (by omega) (by omega) (by omega) (by omega)
  subst hm
  exact ⟨rfl, rfl, by omega⟩
theorem num_range (y m d : Int) (h0 : 1 ≤ y) (h1 : y ≤ 9999) (hm0 : 1 ≤ m) (hm1 : m ≤ 12) (hd0 : 1 ≤ d) (hd1 : d ≤ long y m) : -719162 ≤ num y m d ∧ num y m d ≤ 2932896 := by
  have s1 := cum_step y m hm0 hm1
  have e1 := cum_mono y (m + 1) 13 (by omega) (by omega) (by omega)
  rw [cum_end] at e1
  have z1 := cum_bd y m (by omega)
  have w1 := D_step (y - 1)
  rw [show y - 1 + 1 = y by omega] at w1
  have := D_mono 0 (y - 1) (by omega)
  have := D_mono y 9999 h1
  have := D_lo
  have := D_hi
  unfold num
  omega
end Go.Proofs.Ythjndgioalehcaa.Plain
