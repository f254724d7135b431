/- What the calendar's functions come to, in plain numbers: Leap, Long, Days and the reference's. -/
import Derived.Test.YthjndgioalehcaaQ2
import Derived.Test.YthjndgioalehcaaQ3
import Derived.Test.YthjndgioalehcaaPlain
import Derived.IntWalk
namespace Go.Proofs.Ythjndgioalehcaa.Pure
open Go.RowKit Go.Proofs.Ythjndgioalehcaa.Q Go.Proofs.YthjndgioalehcaaW.PrintWords Go.Proofs.YthjndgioalehcaaW.PrintLast
open Plain

theorem wI (x : Int) (h0 : -9223372036854775808 ≤ x) (h1 : x ≤ 9223372036854775807) : wrap64 x = x := IntWalk.wrap64_in x ⟨h0, h1⟩
theorem bd_of_wf {x : Int} (h : (Lit.int .i64 x).wf = true) : -9223372036854775808 ≤ x ∧ x ≤ 9223372036854775807 := by
  simp only [Lit.wf, Bool.and_eq_true, decide_eq_true_eq] at h; exact h
theorem tm0 (a n : Int) : Int.tmod a n = 0 ↔ a % n = 0 := by rw [← Int.dvd_iff_tmod_eq_zero, Int.dvd_iff_emod_eq_zero]
theorem tm0b (a n : Int) : (Int.tmod a n == 0) = (a % n == 0) := by
  rw [Bool.eq_iff_iff, beq_iff_eq, beq_iff_eq, tm0]
theorem leapB_eq (y : Int) : leapB y = leap y := by simp only [leapB, leap, tm0b]
theorem Leap_eq (y : Int) : civil_Leap.f y = some (leap y) := by
  simp only [civil_Leap.f, leap, tm0, tm0b]
  by_cases h1 : y % 4 = 0 <;> by_cases h2 : y % 100 = 0 <;> simp [h1, h2]
theorem rLeap_eq (y : Int) : abutmentref05_Leap.f y = some (leap y) := by
  simp only [abutmentref05_Leap.f, leap, tm0]
  by_cases h1 : y % 400 = 0
  · have h2 : y % 4 = 0 := by omega
    simp [h1, h2]
  · by_cases h2 : y % 4 = 0 <;> simp [h1, h2, bne, tm0b]
theorem longI_eq (y m : Int) : longI y m = long y m := by
  simp only [longI, long, leapB_eq, tbl]
  repeat' split <;> simp_all
theorem Long_eq (y m : Int) : civil_Long.f y m = some (long y m) := by rw [civil_Long.f, longI_eq]
theorem rLong_ev (y m : Int) : Ev (fun k => abutmentref05_Long.f k y m) (long y m) := by
  refine ⟨2, fun k hk => ?_⟩
  obtain ⟨k, rfl⟩ : ∃ n, k = n + 2 := ⟨k - 2, by omega⟩
  simp only [abutmentref05_Long.f, rLeap_eq, Option.bind_some, abutmentref05_Long.j0, abutmentref05_Long.j1, long]
  by_cases h2 : m = 2
  · subst h2
    cases leap y <;> simp
  · by_cases h4 : m = 4
    · subst h4; simp
    · by_cases h6 : m = 6
      · subst h6; simp
      · by_cases h9 : m = 9
        · subst h9; simp
        · by_cases h11 : m = 11
          · subst h11; simp
          · simp only [h2, h4, h6, h9, if_false, or_false, Bool.false_eq_true, beq_eq_false_iff_ne.mpr h11, h11]
            by_cases hlo : m < 1
            · simp [hlo]
            · by_cases hhi : m > 12
              · simp [hlo, hhi]
              · rw [if_neg hlo, if_neg hhi, if_neg (by omega)]
theorem rwhole_eq (y : Int) : abutmentref05_whole.f y = some (whole y) := by
  simp only [abutmentref05_whole.f, rLeap_eq, Option.bind_some, whole]
  cases leap y <;> simp
def right (y m d : Int) : Bool := decide (1 ≤ y) && decide (y ≤ 9999) && decide (1 ≤ d) && decide (d ≤ long y m)
theorem right_iff (y m d : Int) : right y m d = true ↔ 1 ≤ y ∧ y ≤ 9999 ∧ 1 ≤ d ∧ d ≤ long y m := by simp [right, and_assoc]
theorem right_not {y m d : Int} (h : ¬ right y m d = true) : ¬ (1 ≤ y ∧ y ≤ 9999 ∧ 1 ≤ d ∧ d ≤ long y m) := by rwa [right_iff] at h
theorem right_eq (y m d : Int) : civil_right.f y m d = some (right y m d) := by
  simp only [civil_right.f, Long_eq, Option.bind_some, right]
  by_cases h1 : 1 ≤ y <;> by_cases h2 : y ≤ 9999 <;> by_cases h3 : 1 ≤ d <;> simp [h1, h2, h3]
theorem month_in (y m d : Int) (h : right y m d = true) : 1 ≤ m ∧ m ≤ 12 := by
  rw [right_iff] at h
  have : 1 ≤ long y m := by omega
  unfold long at this
  by_cases c : m < 1 ∨ 12 < m
  · rw [if_pos c] at this; omega
  · omega
theorem Days_yes (y m d : Int) (h : right y m d = true) : civil_Days.f y m d = some (num y m d, true) := by
  obtain ⟨hm0, hm1⟩ := month_in y m d h
  have hn := num_march y m d hm0 hm1
  have hl := long_bd y m
  have hr := h
  rw [right_iff] at hr
  unfold D at hn
  simp only [civil_Days.f, right_eq, h, Option.bind_some, if_true]
  have e9 : wrap64 (m + 9) = m + 9 := wI _ (by omega) (by omega)
  have et : Int.tmod (m + 9) 12 = (m + 9) % 12 := Int.tmod_eq_emod_of_nonneg (by omega)
  rw [e9, et]
  by_cases c : 10 ≤ (m + 9) % 12
  · rw [if_pos c] at hn
    rw [if_pos c]
    simp (disch := omega) only [wI, Int.tdiv_eq_ediv_of_nonneg]
    rw [← hn]
    simp only [Option.some.injEq, Prod.mk.injEq, and_true]
    omega
  · rw [if_neg c] at hn
    rw [if_neg c]
    simp (disch := omega) only [wI, Int.tdiv_eq_ediv_of_nonneg]
    rw [← hn]
    simp only [Option.some.injEq, Prod.mk.injEq, and_true]
    omega
theorem Days_no (y m d : Int) (h : ¬ right y m d = true) : civil_Days.f y m d = some (0, false) := by
  simp only [civil_Days.f, right_eq, Option.bind_some, if_neg h]
/-- The reference's way: years and months one by one. -/
theorem l2_ev (y m : Int) (hm : m ≤ 12) : ∀ (n : Nat) (i v : Int), 1 ≤ i → (m - i).toNat = n → (i ≤ m) → -10000000 ≤ v → v ≤ 10000000 + cum y i →
    Ev (fun k => abutmentref05_Days.l2 k y m v i) (v + (cum y m - cum y i), true) := by
  intro n
  induction n with
  | zero =>
    intro i v hi hn him hv0 hv1
    obtain rfl : i = m := by omega
    refine Ev.step (f := fun _ => some (v, true)) (fun k => ?_) ?_
    · simp only [abutmentref05_Days.l2]; rw [if_neg (by omega)]
    · rw [show v + (cum y i - cum y i) = v by omega]; exact Ev.now _
  | succ n ih =>
    intro i v hi hn him hv0 hv1
    have hc := cum_step y i hi (by omega)
    have hl := long_bd y i
    have hb := cum_bd y i (by omega)
    refine Ev.step (f := fun k => (abutmentref05_Long.f k y i).bind fun t => abutmentref05_Days.l2 k y m (wrap64 (v + t)) (wrap64 (i + 1))) (fun k => ?_) ?_
    · simp only [abutmentref05_Days.l2]; rw [if_pos (by omega)]
    · refine Ev.bind (f := fun k t => abutmentref05_Days.l2 k y m (wrap64 (v + t)) (wrap64 (i + 1))) (rLong_ev y i) ?_
      rw [wI (v + long y i) (by omega) (by omega), wI (i + 1) (by omega) (by omega)]
      have := ih (i + 1) (v + long y i) (by omega) (by omega) (by omega) (by omega) (by omega)
      rw [hc] at this
      rw [show v + (cum y m - cum y i) = v + long y i + (cum y m - (cum y i + long y i)) by omega]
      exact this
theorem l1_stop (y m : Int) (hm0 : 1 ≤ m) (hm : m ≤ 12) (i v : Int) (hi : 1970 ≤ i) (h0 : -5000000 ≤ v) (h1 : v ≤ 5000000) :
    Ev (fun k => abutmentref05_Days.l1 k y m v i) (v + cum y m, true) := by
  refine Ev.step (f := fun k => abutmentref05_Days.l2 k y m v 1) (fun k => ?_) ?_
  · simp only [abutmentref05_Days.l1]; rw [if_neg (by omega)]
  · rw [show v + cum y m = v + (cum y m - cum y 1) by rw [cum_one]; omega]
    exact l2_ev y m hm _ 1 v (by omega) rfl hm0 (by omega) (by rw [cum_one]; omega)
theorem l1_go (y m R : Int) (hm0 : 1 ≤ m) (hm : m ≤ 12) (hR0 : -1000000 ≤ R) (hR1 : R ≤ 100) : ∀ (n : Nat) (i : Int), 1 ≤ i → (1970 - i).toNat = n → i ≤ 1970 →
    Ev (fun k => abutmentref05_Days.l1 k y m (R + (D 1969 - D (i - 1))) i) (R + cum y m, true) := by
  intro n
  induction n with
  | zero =>
    intro i hi0 hn hi1
    obtain rfl : i = 1970 := by omega
    rw [show R + (D 1969 - D (1970 - 1)) = R by rw [show (1970 : Int) - 1 = 1969 by omega]; omega]
    exact l1_stop y m hm0 hm 1970 R (by omega) (by omega) (by omega)
  | succ n ih =>
    intro i hi0 hn hi1
    have hc := D_step (i - 1)
    rw [show i - 1 + 1 = i by omega] at hc
    have hl := whole_bd i
    have h69 := D_69
    have h0 := D_mono 0 (i - 1) (by omega)
    have hz := D_lo
    have h2 := D_mono (i - 1) 1969 (by omega)
    refine Ev.step (f := fun k => (abutmentref05_whole.f i).bind fun t => abutmentref05_Days.l1 k y m (wrap64 (R + (D 1969 - D (i - 1)) - t)) (wrap64 (i + 1))) (fun k => ?_) ?_
    · simp only [abutmentref05_Days.l1]; rw [if_pos (by omega)]
    · rw [rwhole_eq]
      simp only [Option.bind_some]
      rw [wI (R + (D 1969 - D (i - 1)) - whole i) (by omega) (by omega), wI (i + 1) (by omega) (by omega)]
      have := ih (i + 1) (by omega) (by omega) (by omega)
      rw [show i + 1 - 1 = i by omega] at this
      rw [show R + (D 1969 - D (i - 1)) - whole i = R + (D 1969 - D i) by omega]
      exact this
theorem l0_ev (y m d : Int) (hy0 : 1 ≤ y) (hy1 : y ≤ 9999) (hm0 : 1 ≤ m) (hm : m ≤ 12) (hd0 : 0 ≤ d) (hd1 : d ≤ 100) : ∀ (n : Nat) (i : Int), 1970 ≤ i → (y - i).toNat = n → (i = 1970 ∨ i ≤ y) →
    Ev (fun k => abutmentref05_Days.l0 k y m (d + (D (i - 1) - D 1969)) i) (d + (D (y - 1) - D 1969) + cum y m, true) := by
  intro n
  have h69 := D_69
  have hz := D_lo
  have h99 := D_hi
  have h2 := D_mono 0 (y - 1) (by omega)
  induction n with
  | zero =>
    intro i hi0 hn hi
    refine Ev.step (f := fun k => abutmentref05_Days.l1 k y m (d + (D (i - 1) - D 1969)) y) (fun k => ?_) ?_
    · simp only [abutmentref05_Days.l0]; rw [if_neg (by omega)]
    · by_cases c : y < 1970
      · obtain rfl : i = 1970 := by omega
        have h3 := D_mono (y - 1) 1969 (by omega)
        have := l1_go y m (d + (D (y - 1) - D 1969)) hm0 hm (by omega) (by omega) _ y hy0 rfl (by omega)
        rw [show d + (D (y - 1) - D 1969) + (D 1969 - D (y - 1)) = d + (D (1970 - 1) - D 1969) by rw [show (1970 : Int) - 1 = 1969 by omega]; omega] at this
        exact this
      · obtain rfl : i = y := by omega
        have h3 := D_mono (i - 1) 9999 (by omega)
        exact l1_stop i m hm0 hm i _ hi0 (by omega) (by omega)
  | succ n ih =>
    intro i hi0 hn hi
    have hc := D_step (i - 1)
    rw [show i - 1 + 1 = i by omega] at hc
    have hl := whole_bd i
    have h0 := D_mono 1969 (i - 1) (by omega)
    have h3 := D_mono i 9999 (by omega)
    refine Ev.step (f := fun k => (abutmentref05_whole.f i).bind fun t => abutmentref05_Days.l0 k y m (wrap64 (d + (D (i - 1) - D 1969) + t)) (wrap64 (i + 1))) (fun k => ?_) ?_
    · simp only [abutmentref05_Days.l0]; rw [if_pos (by omega)]
    · rw [rwhole_eq]
      simp only [Option.bind_some]
      rw [wI (d + (D (i - 1) - D 1969) + whole i) (by omega) (by omega), wI (i + 1) (by omega) (by omega)]
      have := ih (i + 1) (by omega) (by omega) (by omega)
      rw [show i + 1 - 1 = i by omega] at this
      rw [show d + (D (i - 1) - D 1969) + whole i = d + (D i - D 1969) by omega]
      exact this
theorem rDays_yes (y m d : Int) (h : right y m d = true) : Ev (fun k => abutmentref05_Days.f k y m d) (num y m d, true) := by
  obtain ⟨hm0, hm1⟩ := month_in y m d h
  have hl := long_bd y m
  rw [right_iff] at h
  have h69 := D_69
  have := l0_ev y m (d - 1) h.1 h.2.1 hm0 hm1 (by omega) (by omega) _ 1970 (by omega) rfl (.inl rfl)
  rw [show d - 1 + (D (1970 - 1) - D 1969) = d - 1 by rw [show (1970 : Int) - 1 = 1969 by omega]; omega] at this
  refine Ev.congr (f := fun k => (abutmentref05_Long.f k y m).bind fun t => abutmentref05_Days.j0 k y m d (decide (d > t))) (fun k => ?_) ?_
  · simp only [abutmentref05_Days.f]; rw [if_neg (by omega), if_neg (by omega), if_neg (by omega)]
  · refine Ev.bind (f := fun k t => abutmentref05_Days.j0 k y m d (decide (d > t))) (rLong_ev y m) ?_
    refine Ev.step (f := fun k => abutmentref05_Days.l0 k y m (d - 1) 1970) (fun k => ?_) ?_
    · rw [decide_eq_false (by omega)]; simp only [abutmentref05_Days.j0, Bool.false_eq_true, if_false]; rw [wI (d - 1) (by omega) (by omega)]
    · unfold num; rw [← h69]; exact this
theorem rDays_no (y m d : Int) (h : ¬ right y m d = true) : Ev (fun k => abutmentref05_Days.f k y m d) (0, false) := by
  have hr := right_not h
  have stop : Ev (fun k => abutmentref05_Days.j0 k y m d true) (0, false) := Ev.step (f := fun _ => some (0, false)) (fun k => by simp only [abutmentref05_Days.j0, if_true]) (Ev.now _)
  by_cases c1 : y < 1
  · exact Ev.congr (f := fun k => abutmentref05_Days.j0 k y m d true) (fun k => by simp only [abutmentref05_Days.f]; rw [if_pos c1]) stop
  · by_cases c2 : y > 9999
    · exact Ev.congr (f := fun k => abutmentref05_Days.j0 k y m d true) (fun k => by simp only [abutmentref05_Days.f]; rw [if_neg c1, if_pos c2]) stop
    · by_cases c3 : d < 1
      · exact Ev.congr (f := fun k => abutmentref05_Days.j0 k y m d true) (fun k => by simp only [abutmentref05_Days.f]; rw [if_neg c1, if_neg c2, if_pos c3]) stop
      · refine Ev.congr (f := fun k => (abutmentref05_Long.f k y m).bind fun t => abutmentref05_Days.j0 k y m d (decide (d > t))) (fun k => ?_) ?_
        · simp only [abutmentref05_Days.f]; rw [if_neg c1, if_neg c2, if_neg c3]
        · refine Ev.bind (f := fun k t => abutmentref05_Days.j0 k y m d (decide (d > t))) (rLong_ev y m) ?_
          rw [decide_eq_true (by omega)]; exact stop
theorem Weekday_some (n : Int) : ∃ d, civil_Weekday.f n = some d := ⟨_, rfl⟩
end Go.Proofs.Ythjndgioalehcaa.Pure
