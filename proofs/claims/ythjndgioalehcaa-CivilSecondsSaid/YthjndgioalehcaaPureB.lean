/- What Of comes to, the program's and the reference's. -/
import Derived.Test.YthjndgioalehcaaQ4
import Derived.Test.YthjndgioalehcaaPureA
import Derived.Test.YthjndgioalehcaaPlainB
namespace Go.Proofs.Ythjndgioalehcaa.Pure
open Go.RowKit Go.Proofs.Ythjndgioalehcaa.Q Go.Proofs.YthjndgioalehcaaW.PrintWords Go.Proofs.YthjndgioalehcaaW.PrintLast Go.Proofs.YthjndgioalehcaaW.PrintMore
open Plain

set_option maxHeartbeats 4000000 in
theorem Of_yes (n : Int) (h0 : -719162 ≤ n) (h1 : n ≤ 2932896) : ∃ y m d, right y m d = true ∧ num y m d = n ∧ Ev (fun k => civil_Of.f k n) (y, m, d, true) := by
  obtain ⟨a, ha⟩ : ∃ a, a = n + 719468 := ⟨_, rfl⟩
  obtain ⟨rest, hr⟩ : ∃ rest, rest = a % 146097 := ⟨_, rfl⟩
  obtain ⟨q, hq⟩ : ∃ q, q = a / 146097 := ⟨_, rfl⟩
  obtain ⟨c, hc⟩ : ∃ c, c = if 3 < rest / 36524 then 3 else rest / 36524 := ⟨_, rfl⟩
  obtain ⟨r1, hr1⟩ : ∃ r1, r1 = rest - c * 36524 := ⟨_, rfl⟩
  obtain ⟨f, hf⟩ : ∃ f, f = r1 / 1461 := ⟨_, rfl⟩
  obtain ⟨r2, hr2⟩ : ∃ r2, r2 = r1 - f * 1461 := ⟨_, rfl⟩
  obtain ⟨o, ho⟩ : ∃ o, o = if 3 < r2 / 365 then 3 else r2 / 365 := ⟨_, rfl⟩
  obtain ⟨r, hrr⟩ : ∃ r, r = r2 - o * 365 := ⟨_, rfl⟩
  obtain ⟨m, hm⟩ : ∃ m, m = (5 * r + 2) / 153 := ⟨_, rfl⟩
  have P := parts n rest q c r1 f r2 o r m (by rw [hr, ha]) (by rw [hq, ha]) hc hr1 hf hr2 ho hrr hm
  have hmo := P.month
  have hd := P.day
  have hy := P.year h0 h1
  refine ⟨yearOf q c f o m, monthOf m, dayOf r m, (right_iff _ _ _).2 ⟨hy.1, hy.2, hd.1, hd.2⟩, P.num, ?_⟩
  have pc0 := P.c0
  have pc1 := P.c1
  have pf0 := P.f0
  have pf1 := P.f1
  have po0 := P.o0
  have po1 := P.o1
  have pr0 := P.r0
  have pr1 := P.r1
  have pm := P.months
  have ha0 : 306 ≤ a ∧ a ≤ 3652364 := by omega
  have hq0 : 0 ≤ q ∧ q ≤ 25 := by omega
  have hre : 0 ≤ rest ∧ rest < 146097 := by omega
  have hr10 : 0 ≤ r1 ∧ r1 ≤ 40000 := by omega
  have hr20 : 0 ≤ r2 ∧ r2 ≤ 1460 := by omega
  have e1 : wrap64 (n + 719468) = a := by rw [wI _ (by omega) (by omega)]; omega
  have e2 : Int.tmod a 146097 = rest := by rw [Int.tmod_eq_emod_of_nonneg (by omega), hr]
  have e3 : wrap64 (Int.tdiv a 146097) = q := by rw [Int.tdiv_eq_ediv_of_nonneg (by omega), wI _ (by omega) (by omega), hq]
  have e4 : wrap64 (Int.tdiv rest 36524) = rest / 36524 := by rw [Int.tdiv_eq_ediv_of_nonneg (by omega), wI _ (by omega) (by omega)]
  have e5 : mn (rest / 36524) 3 = c := by rw [hc]; rfl
  have e6 : wrap64 (c * 36524) = c * 36524 := wI _ (by omega) (by omega)
  have e7 : wrap64 (rest - c * 36524) = r1 := by rw [wI _ (by omega) (by omega)]; omega
  have e8 : wrap64 (Int.tdiv r1 1461) = f := by rw [Int.tdiv_eq_ediv_of_nonneg (by omega), wI _ (by omega) (by omega), hf]
  have e9 : wrap64 (f * 1461) = f * 1461 := wI _ (by omega) (by omega)
  have e10 : wrap64 (r1 - f * 1461) = r2 := by rw [wI _ (by omega) (by omega)]; omega
  have e11 : wrap64 (Int.tdiv r2 365) = r2 / 365 := by rw [Int.tdiv_eq_ediv_of_nonneg (by omega), wI _ (by omega) (by omega)]
  have e12 : mn (r2 / 365) 3 = o := by rw [ho]; rfl
  have e13 : wrap64 (o * 365) = o * 365 := wI _ (by omega) (by omega)
  have e14 : wrap64 (r2 - o * 365) = r := by rw [wI _ (by omega) (by omega)]; omega
  have e15 : wrap64 (5 * r) = 5 * r := wI _ (by omega) (by omega)
  have e16 : wrap64 (5 * r + 2) = 5 * r + 2 := wI _ (by omega) (by omega)
  have e17 : wrap64 (Int.tdiv (5 * r + 2) 153) = m := by rw [Int.tdiv_eq_ediv_of_nonneg (by omega), wI _ (by omega) (by omega), hm]
  have e18 : wrap64 (q * 400) = q * 400 := wI _ (by omega) (by omega)
  have e19 : wrap64 (c * 100) = c * 100 := wI _ (by omega) (by omega)
  have e20 : wrap64 (f * 4) = f * 4 := wI _ (by omega) (by omega)
  have e21 : wrap64 (c * 100 + f * 4) = c * 100 + f * 4 := wI _ (by omega) (by omega)
  have e22 : wrap64 (c * 100 + f * 4 + o) = c * 100 + f * 4 + o := wI _ (by omega) (by omega)
  have e23 : wrap64 (q * 400 + (c * 100 + f * 4 + o)) = q * 400 + (c * 100 + f * 4 + o) := wI _ (by omega) (by omega)
  have e24 : wrap64 (q * 400 + (c * 100 + f * 4 + o) + 1) = q * 400 + (c * 100 + f * 4 + o) + 1 := wI _ (by omega) (by omega)
  have e25 : wrap64 (m + 2) = m + 2 := wI _ (by omega) (by omega)
  have e26 : Int.tmod (m + 2) 12 = (m + 2) % 12 := Int.tmod_eq_emod_of_nonneg (by omega)
  have e27 : wrap64 ((m + 2) % 12 + 1) = (m + 2) % 12 + 1 := wI _ (by omega) (by omega)
  have e28 : wrap64 (153 * m) = 153 * m := wI _ (by omega) (by omega)
  have e29 : wrap64 (153 * m + 2) = 153 * m + 2 := wI _ (by omega) (by omega)
  have e30 : wrap64 (Int.tdiv (153 * m + 2) 5) = (153 * m + 2) / 5 := by rw [Int.tdiv_eq_ediv_of_nonneg (by omega), wI _ (by omega) (by omega)]
  have e31 : wrap64 (r - (153 * m + 2) / 5) = r - (153 * m + 2) / 5 := wI _ (by omega) (by omega)
  have e32 : wrap64 (r - (153 * m + 2) / 5 + 1) = r - (153 * m + 2) / 5 + 1 := wI _ (by omega) (by omega)
  refine Ev.step (f := fun _ => some (yearOf q c f o m, monthOf m, dayOf r m, true)) (fun k => ?_) (Ev.now _)
  unfold civil_Of.f
  rw [if_neg (by omega), decide_eq_false (by omega)]
  simp only [civil_Of.j0, Bool.false_eq_true, if_false]
  simp only [e1, e2, e3, e4, e5, e6, e7, e8, e9, e10, e11, e12, e13, e14, e15, e16, e17, e18, e19, e20, e21, e22, e23, e24, e25, e26, e27, e28, e29, e30, e31, e32]
  unfold yearOf monthOf dayOf
  by_cases c10 : m ≥ 10
  · rw [if_pos c10, if_pos c10]
  · rw [if_neg c10, if_neg c10]
theorem Of_no (n : Int) (h : n < -719162 ∨ 2932896 < n) : Ev (fun k => civil_Of.f k n) (0, 0, 0, false) := by
  refine Ev.step (f := fun _ => some (0, 0, 0, false)) (fun k => ?_) (Ev.now _)
  unfold civil_Of.f
  by_cases c : n < -719162
  · rw [if_pos c]; simp only [civil_Of.j0, if_true]
  · rw [if_neg c, decide_eq_true (by omega)]; simp only [civil_Of.j0, if_true]

/-- The reference's way. -/
theorem rl2_ev (y m d : Int) (hd0 : 1 ≤ d) (hm1 : m ≤ 12) (hd1 : d ≤ long y m) : ∀ (n : Nat) (i : Int), 1 ≤ i → i ≤ m → (m - i).toNat = n →
    Ev (fun k => abutmentref05_Of.l2 k (d - 1 + (cum y m - cum y i)) y i) (y, m, d, 0, 0, 0, true) := by
  intro n
  have hlm := long_bd y m
  induction n with
  | zero =>
    intro i hi him hn
    obtain rfl : i = m := by omega
    rw [show d - 1 + (cum y i - cum y i) = d - 1 by omega]
    refine Ev.step (f := fun k => (abutmentref05_Long.f k y i).bind fun t => if d - 1 ≥ t then (abutmentref05_Long.f k y i).bind fun t' => abutmentref05_Of.l2 k (wrap64 (d - 1 - t')) y (wrap64 (i + 1)) else some (y, i, wrap64 (d - 1 + 1), 0, 0, 0, true)) (fun k => ?_) ?_
    · simp only [abutmentref05_Of.l2]
    · refine Ev.bind (f := fun k t => if d - 1 ≥ t then (abutmentref05_Long.f k y i).bind fun t' => abutmentref05_Of.l2 k (wrap64 (d - 1 - t')) y (wrap64 (i + 1)) else some (y, i, wrap64 (d - 1 + 1), 0, 0, 0, true)) (rLong_ev y i) ?_
      rw [wI (d - 1 + 1) (by omega) (by omega), show d - 1 + 1 = d by omega]
      refine Ev.congr (fun k => ?_) (Ev.now _)
      rw [if_neg (by omega)]
  | succ n ih =>
    intro i hi him hn
    have hc := cum_step y i hi (by omega)
    have hl := long_bd y i
    have hmo := cum_mono y (i + 1) m (by omega) (by omega) (by omega)
    have hb := cum_bd y i (by omega)
    have hbm := cum_bd y m (by omega)
    refine Ev.step (f := fun k => (abutmentref05_Long.f k y i).bind fun t => if d - 1 + (cum y m - cum y i) ≥ t then (abutmentref05_Long.f k y i).bind fun t' => abutmentref05_Of.l2 k (wrap64 (d - 1 + (cum y m - cum y i) - t')) y (wrap64 (i + 1)) else some (y, i, wrap64 (d - 1 + (cum y m - cum y i) + 1), 0, 0, 0, true)) (fun k => ?_) ?_
    · simp only [abutmentref05_Of.l2]
    · refine Ev.bind (f := fun k t => if d - 1 + (cum y m - cum y i) ≥ t then (abutmentref05_Long.f k y i).bind fun t' => abutmentref05_Of.l2 k (wrap64 (d - 1 + (cum y m - cum y i) - t')) y (wrap64 (i + 1)) else some (y, i, wrap64 (d - 1 + (cum y m - cum y i) + 1), 0, 0, 0, true)) (rLong_ev y i) ?_
      refine Ev.congr (f := fun k => (abutmentref05_Long.f k y i).bind fun t' => abutmentref05_Of.l2 k (wrap64 (d - 1 + (cum y m - cum y i) - t')) y (wrap64 (i + 1))) (fun k => if_pos (by omega)) ?_
      refine Ev.bind (f := fun k t' => abutmentref05_Of.l2 k (wrap64 (d - 1 + (cum y m - cum y i) - t')) y (wrap64 (i + 1))) (rLong_ev y i) ?_
      have := ih (i + 1) (by omega) (by omega) (by omega)
      rw [wI (d - 1 + (cum y m - cum y i) - long y i) (by omega) (by omega), wI (i + 1) (by omega) (by omega)]
      rw [hc] at this
      rw [show d - 1 + (cum y m - cum y i) - long y i = d - 1 + (cum y m - (cum y i + long y i)) by omega]
      exact this
/-- Behind the years: what is left is the day of the year. -/
theorem rl1_ev (y m d : Int) (hy1 : y ≤ 9999) (hm0 : 1 ≤ m) (hm1 : m ≤ 12) (hd0 : 1 ≤ d) (hd1 : d ≤ long y m) : ∀ (n : Nat) (i : Int), 1 ≤ i → i ≤ y → (y - i).toNat = n →
    Ev (fun k => abutmentref05_Of.l1 k (d - 1 + cum y m + (D (y - 1) - D (i - 1))) i 1) (y, m, d, 0, 0, 0, true) := by
  intro n
  have hlm := long_bd y m
  have hbm := cum_bd y m (by omega)
  have hcs := cum_step y m hm0 hm1
  have hce := cum_mono y (m + 1) 13 (by omega) (by omega) (by omega)
  rw [cum_end] at hce
  induction n with
  | zero =>
    intro i hi him hn
    obtain rfl : i = y := by omega
    rw [show d - 1 + cum i m + (D (i - 1) - D (i - 1)) = d - 1 + (cum i m - cum i 1) by rw [cum_one]; omega]
    refine Ev.step (f := fun k => abutmentref05_Of.l2 k (d - 1 + (cum i m - cum i 1)) i 1) (fun k => ?_) ?_
    · simp only [abutmentref05_Of.l1, rwhole_eq, Option.bind_some]; rw [if_neg (by rw [cum_one]; omega)]
    · exact rl2_ev i m d hd0 hm1 hd1 _ 1 (by omega) hm0 rfl
  | succ n ih =>
    intro i hi him hn
    have hc := D_step (i - 1)
    rw [show i - 1 + 1 = i by omega] at hc
    have hl := whole_bd i
    have h0 := D_mono 0 (i - 1) (by omega)
    have hz := D_lo
    have h2 := D_mono i (y - 1) (by omega)
    have h3 := D_mono (y - 1) 9999 (by omega)
    have h9 := D_hi
    refine Ev.step (f := fun k => abutmentref05_Of.l1 k (wrap64 (d - 1 + cum y m + (D (y - 1) - D (i - 1)) - whole i)) (wrap64 (i + 1)) 1) (fun k => ?_) ?_
    · simp only [abutmentref05_Of.l1, rwhole_eq, Option.bind_some]; rw [if_pos (by omega)]
    · rw [wI (d - 1 + cum y m + (D (y - 1) - D (i - 1)) - whole i) (by omega) (by omega), wI (i + 1) (by omega) (by omega)]
      have := ih (i + 1) (by omega) (by omega) (by omega)
      rw [show i + 1 - 1 = i by omega] at this
      rw [show d - 1 + cum y m + (D (y - 1) - D (i - 1)) - whole i = d - 1 + cum y m + (D (y - 1) - D i) by omega]
      exact this
/-- The years ahead of 1970. -/
theorem rl0_ev (y m d : Int) (hy0 : 1 ≤ y) (hy1 : y ≤ 9999) (hm0 : 1 ≤ m) (hm1 : m ≤ 12) (hd0 : 1 ≤ d) (hd1 : d ≤ long y m) : ∀ (n : Nat) (i : Int), i ≤ 1970 → (y ≤ i ∨ i = 1970) → (i - y).toNat = n →
    Ev (fun k => abutmentref05_Of.l0 k (d - 1 + cum y m + (D (y - 1) - D (i - 1))) i 1) (y, m, d, 0, 0, 0, true) := by
  intro n
  have hlm := long_bd y m
  have hbm := cum_bd y m (by omega)
  have hcs := cum_step y m hm0 hm1
  have hce := cum_mono y (m + 1) 13 (by omega) (by omega) (by omega)
  rw [cum_end] at hce
  have hyw := D_step (y - 1)
  rw [show y - 1 + 1 = y by omega] at hyw
  induction n with
  | zero =>
    intro i hi hyi hn
    have hle : i ≤ y := by omega
    have h2 := D_mono (i - 1) (y - 1) (by omega)
    refine Ev.step (f := fun k => abutmentref05_Of.l1 k (d - 1 + cum y m + (D (y - 1) - D (i - 1))) i 1) (fun k => ?_) ?_
    · simp only [abutmentref05_Of.l0]; rw [if_neg (by omega)]
    · exact rl1_ev y m d hy1 hm0 hm1 hd0 hd1 _ i (by omega) hle rfl
  | succ n ih =>
    intro i hi hyi hn
    have hlt : y ≤ i - 1 := by omega
    have hc := D_step (i - 2)
    rw [show i - 2 + 1 = i - 1 by omega] at hc
    have hl := whole_bd (i - 1)
    have h0 := D_mono y (i - 1) hlt
    have h2 := D_mono (i - 1) 1969 (by omega)
    have h69 := D_69
    have h4 := D_mono 0 (y - 1) (by omega)
    have hz := D_lo
    refine Ev.step (f := fun k => abutmentref05_Of.l0 k (wrap64 (d - 1 + cum y m + (D (y - 1) - D (i - 1)) + whole (i - 1))) (i - 1) 1) (fun k => ?_) ?_
    · simp only [abutmentref05_Of.l0]
      rw [if_pos (by omega), wI (i - 1) (by omega) (by omega), rwhole_eq]
      simp only [Option.bind_some]
    · rw [wI (d - 1 + cum y m + (D (y - 1) - D (i - 1)) + whole (i - 1)) (by omega) (by omega)]
      have := ih (i - 1) (by omega) (by omega) (by omega)
      rw [show i - 1 - 1 = i - 2 by omega] at this
      rw [show d - 1 + cum y m + (D (y - 1) - D (i - 1)) + whole (i - 1) = d - 1 + cum y m + (D (y - 1) - D (i - 2)) by omega]
      exact this
theorem rOf_yes (y m d : Int) (h : right y m d = true) : Ev (fun k => abutmentref05_Of.f k (num y m d)) (y, m, d, 0, 0, 0, true) := by
  obtain ⟨hm0, hm1⟩ := month_in y m d h
  rw [right_iff] at h
  obtain ⟨hy0, hy1, hd0, hd1⟩ := h
  have hr := num_range y m d hy0 hy1 hm0 hm1 hd0 hd1
  refine Ev.step (f := fun k => abutmentref05_Of.l0 k (num y m d) 1970 1) (fun k => ?_) ?_
  · unfold abutmentref05_Of.f
    rw [if_neg (by omega), decide_eq_false (by omega)]
    simp only [abutmentref05_Of.j0, Bool.false_eq_true, if_false]
  · have := rl0_ev y m d hy0 hy1 hm0 hm1 hd0 hd1 _ 1970 (by omega) (.inr rfl) rfl
    rw [show (1970 : Int) - 1 = 1969 by omega, D_69] at this
    rw [show num y m d = d - 1 + cum y m + (D (y - 1) - 719162) by unfold num; omega]
    exact this
theorem rOf_no (n : Int) (h : n < -719162 ∨ 2932896 < n) : Ev (fun k => abutmentref05_Of.f k n) (0, 0, 0, 0, 0, 0, false) := by
  refine Ev.step (f := fun _ => some (0, 0, 0, 0, 0, 0, false)) (fun k => ?_) (Ev.now _)
  unfold abutmentref05_Of.f
  by_cases c : n < -719162
  · rw [if_pos c]; simp only [abutmentref05_Of.j0, if_true]
  · rw [if_neg c, decide_eq_true (by omega)]; simp only [abutmentref05_Of.j0, if_true]
theorem tmod7 (n : Int) : -7 < Int.tmod n 7 ∧ Int.tmod n 7 < 7 := ⟨Int.lt_tmod_of_pos n (by omega), Int.tmod_lt_of_pos n (by omega)⟩
theorem Weekday_eq (n : Int) : abutmentref05_Weekday.f n = civil_Weekday.f n := by
  have h := tmod7 n
  unfold abutmentref05_Weekday.f civil_Weekday.f
  generalize Int.tmod n 7 = t at h
  by_cases c : t < 0
  · rw [if_pos c]
    simp (disch := omega) only [wI, Int.tmod_eq_emod_of_nonneg]
    rw [show t + 7 + 4 = t + 11 by omega]
  · rw [if_neg c]
    simp (disch := omega) only [wI, Int.tmod_eq_emod_of_nonneg]
    rw [show (t + 11) % 7 = (t + 4) % 7 by omega]
theorem Weekday_val (n : Int) : civil_Weekday.f n = some ((n + 4) % 7) := by
  have h := tmod7 n
  have e : n = 7 * Int.tdiv n 7 + Int.tmod n 7 := (Int.mul_tdiv_add_tmod n 7).symm
  unfold civil_Weekday.f
  generalize Int.tmod n 7 = t at *
  simp (disch := omega) only [wI, Int.tmod_eq_emod_of_nonneg]
  generalize Int.tdiv n 7 = u at *
  rw [show (t + 11) % 7 = (n + 4) % 7 by omega]
theorem lives_yes : abutmentlaw05_lives.f = some true := by
  have h1 : right 2000 3 1 = true := by decide
  have h2 : right 1970 1 2 = true := by decide
  have n1 : num 2000 3 1 = 11017 := by decide
  have n2 : num 1970 1 2 = 1 := by decide
  have n3 : long 2000 2 = 29 := by decide
  have w : civil_Weekday.f 11017 = some 3 := by rw [civil_Weekday.f, show Int.tmod 11017 7 + 11 = 17 from by decide, wI 17 (by omega) (by omega)]; decide
  simp [abutmentlaw05_lives.f, Days_yes _ _ _ h1, Days_yes _ _ _ h2, n1, n2, w, Long_eq, n3]

end Go.Proofs.Ythjndgioalehcaa.Pure
