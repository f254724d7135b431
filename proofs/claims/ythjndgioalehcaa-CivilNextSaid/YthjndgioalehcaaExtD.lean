/- The walk of the law CivilNext, way by way (the printed proof is too great for the kernel). -/
import Derived.Test.YthjndgioalehcaaPureC
import Derived.Test.YthjndgioalehcaaQ4
namespace Go.Proofs.Ythjndgioalehcaa.Q
open Go.RowKit Go.Proofs.YthjndgioalehcaaW.PrintWords
open Go.Proofs.Ythjndgioalehcaa.Pure Go.Proofs.Ythjndgioalehcaa.Plain
set_option linter.unusedVariables false

theorem Days_at (y m d n : Int) (w : World) (h : Hid (right y m d = true)) (hn : Hid (num y m d = n)) : Calls Try.prog 7 #[.int .i64 y, .int .i64 m, .int .i64 d] w fun e w' => e = .returned (.tuple #[.int .i64 n, .bool true]) ∧ Below w.heap.size w w' := by
  have := Days_any y m d w h
  rw [hn.out] at this
  exact this
theorem Long_at (y m l : Int) (w : World) (h : Hid (long y m = l)) : Calls Try.prog 11 #[.int .i64 y, .int .i64 m] w fun e w' => e = .returned (.int .i64 l) ∧ Below w.heap.size w w' :=
  civil_Long.calls y m l w (by rw [Long_eq, h.out])
theorem lives_at (w : World) : Calls Try.prog 13 #[] w fun e w' => e = .returned (.bool true) ∧ Below w.heap.size w w' := abutmentlaw05_lives.calls true w lives_yes
theorem Weekday_at (n v : Int) (w : World) (h : Hid ((n + 4) % 7 = v)) : Calls Try.prog 16 #[.int .i64 n] w fun e w' => e = .returned (.int .i64 v) ∧ Below w.heap.size w w' :=
  (civil_Weekday.calls n v w (by rw [Weekday_val, h.out])).mono fun e w' ⟨he, hw⟩ => ⟨he, hw.below⟩
theorem Date_at (s y m d h mi se : Int) (ok : Bool) (w : World) (hd : Hid (dateF s = some (y, m, d, h, mi, se, ok))) : Calls Try.prog 20 #[.int .i64 s] w fun e w' => e = .returned (.tuple #[.agg #[.int .i64 y, .int .i64 m, .int .i64 d, .int .i64 h, .int .i64 mi, .int .i64 se], .bool ok]) ∧ Below w.heap.size w w' :=
  civil_Date.calls s y m d h mi se ok w hd.out
theorem Seconds_at (s y m d h mi se : Int) (w : World) (hd : Hid (secI y m d h mi se = (s, true))) : Calls Try.prog 18 #[.agg #[.int .i64 y, .int .i64 m, .int .i64 d, .int .i64 h, .int .i64 mi, .int .i64 se]] w fun e w' => e = .returned (.tuple #[.int .i64 s, .bool true]) ∧ Below w.heap.size w w' :=
  civil_Seconds.calls y m d h mi se s true w (by rw [civil_Seconds.f, hd.out])
set_option maxHeartbeats 2000000 in
set_option maxRecDepth 100000 in
theorem next_yes_off (n s : Int) (Y M D h mi se : Int)  (w : World) (hd : Hid (dateF s = some (Y, M, D, h, mi, se, true))) (hs : Hid (secI Y M D h mi se = (s, true)))  (ho : Hid (ofI n = (0, 0, 0, false))) :
    Calls Try.prog 6 #[.int .i64 n, .int .i64 s] w fun e w' => e = .returned (.bool true) ∧ Below w.heap.size w w' := by
  have HB := Aside0.mk (Below.refl w.heap.size w)
  go_enter Try.func6, Try.ntmps6
  go_wp2_with fail
  refine (Date_at s Y M D h mi se true _ hd).mono ?_
  rintro e w1 ⟨rfl, hb⟩
  have HB2 := Aside0.mk (below_step HB.out hb)
  clear HB hb
  have HB := HB2
  clear HB2
  go_wp2_with fail
  refine (Seconds_at s Y M D h mi se _ hs).mono ?_
  rintro e w1 ⟨rfl, hb⟩
  have HB2 := Aside0.mk (below_step (below_alloc HB.out _) hb)
  clear HB hb
  have HB := HB2
  clear HB2
  go_wp2_with fail
  refine (Of_any n 0 0 0 false _ ho).mono ?_
  rintro e w1 ⟨rfl, hb⟩
  have HB2 := Aside0.mk (below_step HB.out hb)
  clear HB hb
  have HB := HB2
  clear HB2
  go_wp2_with fail
  refine (lives_at _).mono ?_
  rintro e w1 ⟨rfl, hb⟩
  have HB2 := Aside0.mk (below_step HB.out hb)
  clear HB hb
  have HB := HB2
  clear HB2
  go_wp2
  go_ret
  exact ⟨rfl, HB.out⟩
set_option maxHeartbeats 2000000 in
set_option maxRecDepth 100000 in
theorem next_yes_last (n s : Int) (Y M D h mi se : Int)  (w : World) (hd : Hid (dateF s = some (Y, M, D, h, mi, se, true))) (hs : Hid (secI Y M D h mi se = (s, true))) (n0 : -9223372036854775808 ≤ n) (n1 : n ≤ 9223372036854775806) (ho : Hid (ofI n = (9999, 12, 31, true))) (hr : Hid (right 9999 12 31 = true)) (hn : Hid (num 9999 12 31 = n)) (h2 : Hid (ofI (n + 1) = (0, 0, 0, false))) :
    Calls Try.prog 6 #[.int .i64 n, .int .i64 s] w fun e w' => e = .returned (.bool true) ∧ Below w.heap.size w w' := by
  have HB := Aside0.mk (Below.refl w.heap.size w)
  go_enter Try.func6, Try.ntmps6
  go_wp2_with fail
  refine (Date_at s Y M D h mi se true _ hd).mono ?_
  rintro e w1 ⟨rfl, hb⟩
  have HB2 := Aside0.mk (below_step HB.out hb)
  clear HB hb
  have HB := HB2
  clear HB2
  go_wp2_with fail
  refine (Seconds_at s Y M D h mi se _ hs).mono ?_
  rintro e w1 ⟨rfl, hb⟩
  have HB2 := Aside0.mk (below_step (below_alloc HB.out _) hb)
  clear HB hb
  have HB := HB2
  clear HB2
  go_wp2_with fail
  refine (Of_any n 9999 12 31 true _ ho).mono ?_
  rintro e w1 ⟨rfl, hb⟩
  have HB2 := Aside0.mk (below_step HB.out hb)
  clear HB hb
  have HB := HB2
  clear HB2
  go_wp2_with fail
  refine (Days_at 9999 12 31 n _ hr hn).mono ?_
  rintro e w1 ⟨rfl, hb⟩
  have HB2 := Aside0.mk (below_step HB.out hb)
  clear HB hb
  have HB := HB2
  clear HB2
  go_wp2_with fail
  refine (Of_any (n + 1) 0 0 0 false _ h2).mono ?_
  rintro e w1 ⟨rfl, hb⟩
  have HB2 := Aside0.mk (below_step HB.out hb)
  clear HB hb
  have HB := HB2
  clear HB2
  go_wp2_with fail
  refine (lives_at _).mono ?_
  rintro e w1 ⟨rfl, hb⟩
  have HB2 := Aside0.mk (below_step HB.out hb)
  clear HB hb
  have HB := HB2
  clear HB2
  go_wp2
  go_ret
  exact ⟨rfl, HB.out⟩
set_option maxHeartbeats 2000000 in
set_option maxRecDepth 100000 in
theorem next_yes_step (n s : Int) (Y M D h mi se : Int) (y m d l u v : Int) (w : World) (hd : Hid (dateF s = some (Y, M, D, h, mi, se, true))) (hs : Hid (secI Y M D h mi se = (s, true))) (n0 : -9223372036854775808 ≤ n) (n1 : n ≤ 9223372036854775806) (ho : Hid (ofI n = (y, m, d, true))) (hr : Hid (right y m d = true)) (hn : Hid (num y m d = n)) (h2 : Hid (ofI (n + 1) = (y, m, d + 1, true))) (hl : Hid (long y m = l)) (hdl : d < l) (y0 : 1 ≤ y) (y1 : y ≤ 9999) (m0 : 1 ≤ m) (m1 : m ≤ 12) (d0 : 1 ≤ d) (d1 : d ≤ 31) (hu : Hid ((n + 1 + 4) % 7 = u)) (hv : Hid ((n + 4) % 7 = v)) (v0 : 0 ≤ v) (v1 : v < 7) (huv : Hid (u = (v + 1) % 7)) :
    Calls Try.prog 6 #[.int .i64 n, .int .i64 s] w fun e w' => e = .returned (.bool true) ∧ Below w.heap.size w w' := by
  have HB := Aside0.mk (Below.refl w.heap.size w)
  have q1 : (m == m + 1) = false := beq_eq_false_iff_ne.mpr (by omega)
  have q2 : (y == y + 1) = false := beq_eq_false_iff_ne.mpr (by omega)
  have q3 : (u == (v + 1) % 7) = true := beq_iff_eq.mpr huv.out
  go_enter Try.func6, Try.ntmps6
  go_wp2_with fail
  refine (Date_at s Y M D h mi se true _ hd).mono ?_
  rintro e w1 ⟨rfl, hb⟩
  have HB2 := Aside0.mk (below_step HB.out hb)
  clear HB hb
  have HB := HB2
  clear HB2
  go_wp2_with fail
  refine (Seconds_at s Y M D h mi se _ hs).mono ?_
  rintro e w1 ⟨rfl, hb⟩
  have HB2 := Aside0.mk (below_step (below_alloc HB.out _) hb)
  clear HB hb
  have HB := HB2
  clear HB2
  go_wp2_with fail
  refine (Of_any n y m d true _ ho).mono ?_
  rintro e w1 ⟨rfl, hb⟩
  have HB2 := Aside0.mk (below_step HB.out hb)
  clear HB hb
  have HB := HB2
  clear HB2
  go_wp2_with fail
  refine (Days_at y m d n _ hr hn).mono ?_
  rintro e w1 ⟨rfl, hb⟩
  have HB2 := Aside0.mk (below_step HB.out hb)
  clear HB hb
  have HB := HB2
  clear HB2
  go_wp2_with fail
  refine (Of_any (n + 1) y m (d + 1) true _ h2).mono ?_
  rintro e w1 ⟨rfl, hb⟩
  have HB2 := Aside0.mk (below_step HB.out hb)
  clear HB hb
  have HB := HB2
  clear HB2
  go_wp2_with fail
  refine (Long_at y m l _ hl).mono ?_
  rintro e w1 ⟨rfl, hb⟩
  have HB2 := Aside0.mk (below_step HB.out hb)
  clear HB hb
  have HB := HB2
  clear HB2
  go_wp2_with fail
  refine (Weekday_at (n + 1) u _ hu).mono ?_
  rintro e w1 ⟨rfl, hb⟩
  have HB2 := Aside0.mk (below_step HB.out hb)
  clear HB hb
  have HB := HB2
  clear HB2
  go_wp2_with fail
  refine (Weekday_at n v _ hv).mono ?_
  rintro e w1 ⟨rfl, hb⟩
  have HB2 := Aside0.mk (below_step HB.out hb)
  clear HB hb
  have HB := HB2
  clear HB2
  go_wp2_with fail
  refine (lives_at _).mono ?_
  rintro e w1 ⟨rfl, hb⟩
  have HB2 := Aside0.mk (below_step HB.out hb)
  clear HB hb
  have HB := HB2
  clear HB2
  go_wp2
  go_ret
  exact ⟨rfl, HB.out⟩
set_option maxHeartbeats 2000000 in
set_option maxRecDepth 100000 in
theorem next_yes_month (n s : Int) (Y M D h mi se : Int) (y m d u v : Int) (w : World) (hd : Hid (dateF s = some (Y, M, D, h, mi, se, true))) (hs : Hid (secI Y M D h mi se = (s, true))) (n0 : -9223372036854775808 ≤ n) (n1 : n ≤ 9223372036854775806) (ho : Hid (ofI n = (y, m, d, true))) (hr : Hid (right y m d = true)) (hn : Hid (num y m d = n)) (h2 : Hid (ofI (n + 1) = (y, m + 1, 1, true))) (hl : Hid (long y m = d)) (y0 : 1 ≤ y) (y1 : y ≤ 9999) (m0 : 1 ≤ m) (m1 : m ≤ 12) (d0 : 1 ≤ d) (d1 : d ≤ 31) (hu : Hid ((n + 1 + 4) % 7 = u)) (hv : Hid ((n + 4) % 7 = v)) (v0 : 0 ≤ v) (v1 : v < 7) (huv : Hid (u = (v + 1) % 7)) :
    Calls Try.prog 6 #[.int .i64 n, .int .i64 s] w fun e w' => e = .returned (.bool true) ∧ Below w.heap.size w w' := by
  have HB := Aside0.mk (Below.refl w.heap.size w)
  have q1 : (m + 1 == m) = false := beq_eq_false_iff_ne.mpr (by omega)
  have q2 : (y == y + 1) = false := beq_eq_false_iff_ne.mpr (by omega)
  have q3 : (u == (v + 1) % 7) = true := beq_iff_eq.mpr huv.out
  go_enter Try.func6, Try.ntmps6
  go_wp2_with fail
  refine (Date_at s Y M D h mi se true _ hd).mono ?_
  rintro e w1 ⟨rfl, hb⟩
  have HB2 := Aside0.mk (below_step HB.out hb)
  clear HB hb
  have HB := HB2
  clear HB2
  go_wp2_with fail
  refine (Seconds_at s Y M D h mi se _ hs).mono ?_
  rintro e w1 ⟨rfl, hb⟩
  have HB2 := Aside0.mk (below_step (below_alloc HB.out _) hb)
  clear HB hb
  have HB := HB2
  clear HB2
  go_wp2_with fail
  refine (Of_any n y m d true _ ho).mono ?_
  rintro e w1 ⟨rfl, hb⟩
  have HB2 := Aside0.mk (below_step HB.out hb)
  clear HB hb
  have HB := HB2
  clear HB2
  go_wp2_with fail
  refine (Days_at y m d n _ hr hn).mono ?_
  rintro e w1 ⟨rfl, hb⟩
  have HB2 := Aside0.mk (below_step HB.out hb)
  clear HB hb
  have HB := HB2
  clear HB2
  go_wp2_with fail
  refine (Of_any (n + 1) y (m + 1) 1 true _ h2).mono ?_
  rintro e w1 ⟨rfl, hb⟩
  have HB2 := Aside0.mk (below_step HB.out hb)
  clear HB hb
  have HB := HB2
  clear HB2
  go_wp2_with fail
  refine (Long_at y m d _ hl).mono ?_
  rintro e w1 ⟨rfl, hb⟩
  have HB2 := Aside0.mk (below_step HB.out hb)
  clear HB hb
  have HB := HB2
  clear HB2
  go_wp2_with fail
  refine (Weekday_at (n + 1) u _ hu).mono ?_
  rintro e w1 ⟨rfl, hb⟩
  have HB2 := Aside0.mk (below_step HB.out hb)
  clear HB hb
  have HB := HB2
  clear HB2
  go_wp2_with fail
  refine (Weekday_at n v _ hv).mono ?_
  rintro e w1 ⟨rfl, hb⟩
  have HB2 := Aside0.mk (below_step HB.out hb)
  clear HB hb
  have HB := HB2
  clear HB2
  go_wp2_with fail
  refine (lives_at _).mono ?_
  rintro e w1 ⟨rfl, hb⟩
  have HB2 := Aside0.mk (below_step HB.out hb)
  clear HB hb
  have HB := HB2
  clear HB2
  go_wp2
  go_ret
  exact ⟨rfl, HB.out⟩
set_option maxHeartbeats 2000000 in
set_option maxRecDepth 100000 in
theorem next_yes_year (n s : Int) (Y M D h mi se : Int) (y u v : Int) (w : World) (hd : Hid (dateF s = some (Y, M, D, h, mi, se, true))) (hs : Hid (secI Y M D h mi se = (s, true))) (n0 : -9223372036854775808 ≤ n) (n1 : n ≤ 9223372036854775806) (ho : Hid (ofI n = (y, 12, 31, true))) (hr : Hid (right y 12 31 = true)) (hn : Hid (num y 12 31 = n)) (h2 : Hid (ofI (n + 1) = (y + 1, 1, 1, true))) (y0 : 1 ≤ y) (y1 : y ≤ 9999) (hu : Hid ((n + 1 + 4) % 7 = u)) (hv : Hid ((n + 4) % 7 = v)) (v0 : 0 ≤ v) (v1 : v < 7) (huv : Hid (u = (v + 1) % 7)) :
    Calls Try.prog 6 #[.int .i64 n, .int .i64 s] w fun e w' => e = .returned (.bool true) ∧ Below w.heap.size w w' := by
  have HB := Aside0.mk (Below.refl w.heap.size w)
  have q1 : (y + 1 == y) = false := beq_eq_false_iff_ne.mpr (by omega)
  have q3 : (u == (v + 1) % 7) = true := beq_iff_eq.mpr huv.out
  go_enter Try.func6, Try.ntmps6
  go_wp2_with fail
  refine (Date_at s Y M D h mi se true _ hd).mono ?_
  rintro e w1 ⟨rfl, hb⟩
  have HB2 := Aside0.mk (below_step HB.out hb)
  clear HB hb
  have HB := HB2
  clear HB2
  go_wp2_with fail
  refine (Seconds_at s Y M D h mi se _ hs).mono ?_
  rintro e w1 ⟨rfl, hb⟩
  have HB2 := Aside0.mk (below_step (below_alloc HB.out _) hb)
  clear HB hb
  have HB := HB2
  clear HB2
  go_wp2_with fail
  refine (Of_any n y 12 31 true _ ho).mono ?_
  rintro e w1 ⟨rfl, hb⟩
  have HB2 := Aside0.mk (below_step HB.out hb)
  clear HB hb
  have HB := HB2
  clear HB2
  go_wp2_with fail
  refine (Days_at y 12 31 n _ hr hn).mono ?_
  rintro e w1 ⟨rfl, hb⟩
  have HB2 := Aside0.mk (below_step HB.out hb)
  clear HB hb
  have HB := HB2
  clear HB2
  go_wp2_with fail
  refine (Of_any (n + 1) (y + 1) 1 1 true _ h2).mono ?_
  rintro e w1 ⟨rfl, hb⟩
  have HB2 := Aside0.mk (below_step HB.out hb)
  clear HB hb
  have HB := HB2
  clear HB2
  go_wp2_with fail
  refine (Weekday_at (n + 1) u _ hu).mono ?_
  rintro e w1 ⟨rfl, hb⟩
  have HB2 := Aside0.mk (below_step HB.out hb)
  clear HB hb
  have HB := HB2
  clear HB2
  go_wp2_with fail
  refine (Weekday_at n v _ hv).mono ?_
  rintro e w1 ⟨rfl, hb⟩
  have HB2 := Aside0.mk (below_step HB.out hb)
  clear HB hb
  have HB := HB2
  clear HB2
  go_wp2_with fail
  refine (lives_at _).mono ?_
  rintro e w1 ⟨rfl, hb⟩
  have HB2 := Aside0.mk (below_step HB.out hb)
  clear HB hb
  have HB := HB2
  clear HB2
  go_wp2
  go_ret
  exact ⟨rfl, HB.out⟩
set_option maxHeartbeats 2000000 in
set_option maxRecDepth 100000 in
theorem next_no_off (n s : Int)   (w : World) (hd : Hid (dateF s = some (0, 0, 0, 0, 0, 0, false)))  (ho : Hid (ofI n = (0, 0, 0, false))) :
    Calls Try.prog 6 #[.int .i64 n, .int .i64 s] w fun e w' => e = .returned (.bool true) ∧ Below w.heap.size w w' := by
  have HB := Aside0.mk (Below.refl w.heap.size w)
  go_enter Try.func6, Try.ntmps6
  go_wp2_with fail
  refine (Date_at s 0 0 0 0 0 0 false _ hd).mono ?_
  rintro e w1 ⟨rfl, hb⟩
  have HB2 := Aside0.mk (below_step HB.out hb)
  clear HB hb
  have HB := HB2
  clear HB2
  go_wp2_with fail
  refine (Of_any n 0 0 0 false _ ho).mono ?_
  rintro e w1 ⟨rfl, hb⟩
  have HB2 := Aside0.mk (below_step (below_alloc HB.out _) hb)
  clear HB hb
  have HB := HB2
  clear HB2
  go_wp2_with fail
  refine (lives_at _).mono ?_
  rintro e w1 ⟨rfl, hb⟩
  have HB2 := Aside0.mk (below_step HB.out hb)
  clear HB hb
  have HB := HB2
  clear HB2
  go_wp2
  go_ret
  exact ⟨rfl, HB.out⟩
set_option maxHeartbeats 2000000 in
set_option maxRecDepth 100000 in
theorem next_no_last (n s : Int)   (w : World) (hd : Hid (dateF s = some (0, 0, 0, 0, 0, 0, false))) (n0 : -9223372036854775808 ≤ n) (n1 : n ≤ 9223372036854775806) (ho : Hid (ofI n = (9999, 12, 31, true))) (hr : Hid (right 9999 12 31 = true)) (hn : Hid (num 9999 12 31 = n)) (h2 : Hid (ofI (n + 1) = (0, 0, 0, false))) :
    Calls Try.prog 6 #[.int .i64 n, .int .i64 s] w fun e w' => e = .returned (.bool true) ∧ Below w.heap.size w w' := by
  have HB := Aside0.mk (Below.refl w.heap.size w)
  go_enter Try.func6, Try.ntmps6
  go_wp2_with fail
  refine (Date_at s 0 0 0 0 0 0 false _ hd).mono ?_
  rintro e w1 ⟨rfl, hb⟩
  have HB2 := Aside0.mk (below_step HB.out hb)
  clear HB hb
  have HB := HB2
  clear HB2
  go_wp2_with fail
  refine (Of_any n 9999 12 31 true _ ho).mono ?_
  rintro e w1 ⟨rfl, hb⟩
  have HB2 := Aside0.mk (below_step (below_alloc HB.out _) hb)
  clear HB hb
  have HB := HB2
  clear HB2
  go_wp2_with fail
  refine (Days_at 9999 12 31 n _ hr hn).mono ?_
  rintro e w1 ⟨rfl, hb⟩
  have HB2 := Aside0.mk (below_step HB.out hb)
  clear HB hb
  have HB := HB2
  clear HB2
  go_wp2_with fail
  refine (Of_any (n + 1) 0 0 0 false _ h2).mono ?_
  rintro e w1 ⟨rfl, hb⟩
  have HB2 := Aside0.mk (below_step HB.out hb)
  clear HB hb
  have HB := HB2
  clear HB2
  go_wp2_with fail
  refine (lives_at _).mono ?_
  rintro e w1 ⟨rfl, hb⟩
  have HB2 := Aside0.mk (below_step HB.out hb)
  clear HB hb
  have HB := HB2
  clear HB2
  go_wp2
  go_ret
  exact ⟨rfl, HB.out⟩
set_option maxHeartbeats 2000000 in
set_option maxRecDepth 100000 in
theorem next_no_step (n s : Int)  (y m d l u v : Int) (w : World) (hd : Hid (dateF s = some (0, 0, 0, 0, 0, 0, false))) (n0 : -9223372036854775808 ≤ n) (n1 : n ≤ 9223372036854775806) (ho : Hid (ofI n = (y, m, d, true))) (hr : Hid (right y m d = true)) (hn : Hid (num y m d = n)) (h2 : Hid (ofI (n + 1) = (y, m, d + 1, true))) (hl : Hid (long y m = l)) (hdl : d < l) (y0 : 1 ≤ y) (y1 : y ≤ 9999) (m0 : 1 ≤ m) (m1 : m ≤ 12) (d0 : 1 ≤ d) (d1 : d ≤ 31) (hu : Hid ((n + 1 + 4) % 7 = u)) (hv : Hid ((n + 4) % 7 = v)) (v0 : 0 ≤ v) (v1 : v < 7) (huv : Hid (u = (v + 1) % 7)) :
    Calls Try.prog 6 #[.int .i64 n, .int .i64 s] w fun e w' => e = .returned (.bool true) ∧ Below w.heap.size w w' := by
  have HB := Aside0.mk (Below.refl w.heap.size w)
  have q1 : (m == m + 1) = false := beq_eq_false_iff_ne.mpr (by omega)
  have q2 : (y == y + 1) = false := beq_eq_false_iff_ne.mpr (by omega)
  have q3 : (u == (v + 1) % 7) = true := beq_iff_eq.mpr huv.out
  go_enter Try.func6, Try.ntmps6
  go_wp2_with fail
  refine (Date_at s 0 0 0 0 0 0 false _ hd).mono ?_
  rintro e w1 ⟨rfl, hb⟩
  have HB2 := Aside0.mk (below_step HB.out hb)
  clear HB hb
  have HB := HB2
  clear HB2
  go_wp2_with fail
  refine (Of_any n y m d true _ ho).mono ?_
  rintro e w1 ⟨rfl, hb⟩
  have HB2 := Aside0.mk (below_step (below_alloc HB.out _) hb)
  clear HB hb
  have HB := HB2
  clear HB2
  go_wp2_with fail
  refine (Days_at y m d n _ hr hn).mono ?_
  rintro e w1 ⟨rfl, hb⟩
  have HB2 := Aside0.mk (below_step HB.out hb)
  clear HB hb
  have HB := HB2
  clear HB2
  go_wp2_with fail
  refine (Of_any (n + 1) y m (d + 1) true _ h2).mono ?_
  rintro e w1 ⟨rfl, hb⟩
  have HB2 := Aside0.mk (below_step HB.out hb)
  clear HB hb
  have HB := HB2
  clear HB2
  go_wp2_with fail
  refine (Long_at y m l _ hl).mono ?_
  rintro e w1 ⟨rfl, hb⟩
  have HB2 := Aside0.mk (below_step HB.out hb)
  clear HB hb
  have HB := HB2
  clear HB2
  go_wp2_with fail
  refine (Weekday_at (n + 1) u _ hu).mono ?_
  rintro e w1 ⟨rfl, hb⟩
  have HB2 := Aside0.mk (below_step HB.out hb)
  clear HB hb
  have HB := HB2
  clear HB2
  go_wp2_with fail
  refine (Weekday_at n v _ hv).mono ?_
  rintro e w1 ⟨rfl, hb⟩
  have HB2 := Aside0.mk (below_step HB.out hb)
  clear HB hb
  have HB := HB2
  clear HB2
  go_wp2_with fail
  refine (lives_at _).mono ?_
  rintro e w1 ⟨rfl, hb⟩
  have HB2 := Aside0.mk (below_step HB.out hb)
  clear HB hb
  have HB := HB2
  clear HB2
  go_wp2
  go_ret
  exact ⟨rfl, HB.out⟩
set_option maxHeartbeats 2000000 in
set_option maxRecDepth 100000 in
theorem next_no_month (n s : Int)  (y m d u v : Int) (w : World) (hd : Hid (dateF s = some (0, 0, 0, 0, 0, 0, false))) (n0 : -9223372036854775808 ≤ n) (n1 : n ≤ 9223372036854775806) (ho : Hid (ofI n = (y, m, d, true))) (hr : Hid (right y m d = true)) (hn : Hid (num y m d = n)) (h2 : Hid (ofI (n + 1) = (y, m + 1, 1, true))) (hl : Hid (long y m = d)) (y0 : 1 ≤ y) (y1 : y ≤ 9999) (m0 : 1 ≤ m) (m1 : m ≤ 12) (d0 : 1 ≤ d) (d1 : d ≤ 31) (hu : Hid ((n + 1 + 4) % 7 = u)) (hv : Hid ((n + 4) % 7 = v)) (v0 : 0 ≤ v) (v1 : v < 7) (huv : Hid (u = (v + 1) % 7)) :
    Calls Try.prog 6 #[.int .i64 n, .int .i64 s] w fun e w' => e = .returned (.bool true) ∧ Below w.heap.size w w' := by
  have HB := Aside0.mk (Below.refl w.heap.size w)
  have q1 : (m + 1 == m) = false := beq_eq_false_iff_ne.mpr (by omega)
  have q2 : (y == y + 1) = false := beq_eq_false_iff_ne.mpr (by omega)
  have q3 : (u == (v + 1) % 7) = true := beq_iff_eq.mpr huv.out
  go_enter Try.func6, Try.ntmps6
  go_wp2_with fail
  refine (Date_at s 0 0 0 0 0 0 false _ hd).mono ?_
  rintro e w1 ⟨rfl, hb⟩
  have HB2 := Aside0.mk (below_step HB.out hb)
  clear HB hb
  have HB := HB2
  clear HB2
  go_wp2_with fail
  refine (Of_any n y m d true _ ho).mono ?_
  rintro e w1 ⟨rfl, hb⟩
  have HB2 := Aside0.mk (below_step (below_alloc HB.out _) hb)
  clear HB hb
  have HB := HB2
  clear HB2
  go_wp2_with fail
  refine (Days_at y m d n _ hr hn).mono ?_
  rintro e w1 ⟨rfl, hb⟩
  have HB2 := Aside0.mk (below_step HB.out hb)
  clear HB hb
  have HB := HB2
  clear HB2
  go_wp2_with fail
  refine (Of_any (n + 1) y (m + 1) 1 true _ h2).mono ?_
  rintro e w1 ⟨rfl, hb⟩
  have HB2 := Aside0.mk (below_step HB.out hb)
  clear HB hb
  have HB := HB2
  clear HB2
  go_wp2_with fail
  refine (Long_at y m d _ hl).mono ?_
  rintro e w1 ⟨rfl, hb⟩
  have HB2 := Aside0.mk (below_step HB.out hb)
  clear HB hb
  have HB := HB2
  clear HB2
  go_wp2_with fail
  refine (Weekday_at (n + 1) u _ hu).mono ?_
  rintro e w1 ⟨rfl, hb⟩
  have HB2 := Aside0.mk (below_step HB.out hb)
  clear HB hb
  have HB := HB2
  clear HB2
  go_wp2_with fail
  refine (Weekday_at n v _ hv).mono ?_
  rintro e w1 ⟨rfl, hb⟩
  have HB2 := Aside0.mk (below_step HB.out hb)
  clear HB hb
  have HB := HB2
  clear HB2
  go_wp2_with fail
  refine (lives_at _).mono ?_
  rintro e w1 ⟨rfl, hb⟩
  have HB2 := Aside0.mk (below_step HB.out hb)
  clear HB hb
  have HB := HB2
  clear HB2
  go_wp2
  go_ret
  exact ⟨rfl, HB.out⟩
set_option maxHeartbeats 2000000 in
set_option maxRecDepth 100000 in
theorem next_no_year (n s : Int)  (y u v : Int) (w : World) (hd : Hid (dateF s = some (0, 0, 0, 0, 0, 0, false))) (n0 : -9223372036854775808 ≤ n) (n1 : n ≤ 9223372036854775806) (ho : Hid (ofI n = (y, 12, 31, true))) (hr : Hid (right y 12 31 = true)) (hn : Hid (num y 12 31 = n)) (h2 : Hid (ofI (n + 1) = (y + 1, 1, 1, true))) (y0 : 1 ≤ y) (y1 : y ≤ 9999) (hu : Hid ((n + 1 + 4) % 7 = u)) (hv : Hid ((n + 4) % 7 = v)) (v0 : 0 ≤ v) (v1 : v < 7) (huv : Hid (u = (v + 1) % 7)) :
    Calls Try.prog 6 #[.int .i64 n, .int .i64 s] w fun e w' => e = .returned (.bool true) ∧ Below w.heap.size w w' := by
  have HB := Aside0.mk (Below.refl w.heap.size w)
  have q1 : (y + 1 == y) = false := beq_eq_false_iff_ne.mpr (by omega)
  have q3 : (u == (v + 1) % 7) = true := beq_iff_eq.mpr huv.out
  go_enter Try.func6, Try.ntmps6
  go_wp2_with fail
  refine (Date_at s 0 0 0 0 0 0 false _ hd).mono ?_
  rintro e w1 ⟨rfl, hb⟩
  have HB2 := Aside0.mk (below_step HB.out hb)
  clear HB hb
  have HB := HB2
  clear HB2
  go_wp2_with fail
  refine (Of_any n y 12 31 true _ ho).mono ?_
  rintro e w1 ⟨rfl, hb⟩
  have HB2 := Aside0.mk (below_step (below_alloc HB.out _) hb)
  clear HB hb
  have HB := HB2
  clear HB2
  go_wp2_with fail
  refine (Days_at y 12 31 n _ hr hn).mono ?_
  rintro e w1 ⟨rfl, hb⟩
  have HB2 := Aside0.mk (below_step HB.out hb)
  clear HB hb
  have HB := HB2
  clear HB2
  go_wp2_with fail
  refine (Of_any (n + 1) (y + 1) 1 1 true _ h2).mono ?_
  rintro e w1 ⟨rfl, hb⟩
  have HB2 := Aside0.mk (below_step HB.out hb)
  clear HB hb
  have HB := HB2
  clear HB2
  go_wp2_with fail
  refine (Weekday_at (n + 1) u _ hu).mono ?_
  rintro e w1 ⟨rfl, hb⟩
  have HB2 := Aside0.mk (below_step HB.out hb)
  clear HB hb
  have HB := HB2
  clear HB2
  go_wp2_with fail
  refine (Weekday_at n v _ hv).mono ?_
  rintro e w1 ⟨rfl, hb⟩
  have HB2 := Aside0.mk (below_step HB.out hb)
  clear HB hb
  have HB := HB2
  clear HB2
  go_wp2_with fail
  refine (lives_at _).mono ?_
  rintro e w1 ⟨rfl, hb⟩
  have HB2 := Aside0.mk (below_step HB.out hb)
  clear HB hb
  have HB := HB2
  clear HB2
  go_wp2
  go_ret
  exact ⟨rfl, HB.out⟩

/-- The law's walk at every input. -/
theorem next_all (n s : Int) (w : World) (hn : (Lit.int .i64 n).wf = true) (hs : (Lit.int .i64 s).wf = true) :
    Calls Try.prog 6 #[.int .i64 n, .int .i64 s] w fun e w' => e = .returned (.bool true) ∧ Below w.heap.size w w' := by
  have bn := bd_of_wf hn
  have hd : dateF s = some (dateI s) := dateF_wf s hs
  have key : (∃ Y M D h mi se, dateF s = some (Y, M, D, h, mi, se, true) ∧ secI Y M D h mi se = (s, true)) ∨ dateF s = some (0, 0, 0, 0, 0, 0, false) := by
    rcases ofI_cases (s / 86400) with ⟨y, m, d, ho⟩ | ho
    · rw [hd, dateI_yes ho]
      exact .inl ⟨_, _, _, _, _, _, rfl, secI_dateI s _ _ _ _ _ _ (dateI_yes ho)⟩
    · rw [hd, dateI_no ho]; exact .inr rfl
  by_cases hin : -719162 ≤ n ∧ n ≤ 2932896
  · obtain ⟨y, m, d, he, hr, hnum, _⟩ := ofI_yes n hin.1 hin.2
    have hr' := (right_iff _ _ _).1 hr
    obtain ⟨m0, m1⟩ := month_in _ _ _ hr
    have hl := long_bd y m
    have n0 : -9223372036854775808 ≤ n := by omega
    have n1 : n ≤ 9223372036854775806 := by omega
    have v0 : 0 ≤ (n + 4) % 7 := by omega
    have v1 : (n + 4) % 7 < 7 := by omega
    have huv : (n + 1 + 4) % 7 = ((n + 4) % 7 + 1) % 7 := by omega
    by_cases hlast : n + 1 ≤ 2932896
    · by_cases hdl : d < long y m
      · have hr2 : right y m (d + 1) = true := (right_iff _ _ _).2 ⟨hr'.1, hr'.2.1, by omega, by omega⟩
        have e := ofI_num y m (d + 1) hr2
        rw [num_day, hnum] at e
        rcases key with ⟨Y, M, D, h, mi, se, k1, k2⟩ | k
        · exact next_yes_step n s Y M D h mi se y m d _ _ _ w k1 k2 n0 n1 he hr hnum e (Lib.hid rfl) hdl hr'.1 hr'.2.1 m0 m1 hr'.2.2.1 (by omega) (Lib.hid rfl) (Lib.hid rfl) v0 v1 huv
        · exact next_no_step n s y m d _ _ _ w k n0 n1 he hr hnum e (Lib.hid rfl) hdl hr'.1 hr'.2.1 m0 m1 hr'.2.2.1 (by omega) (Lib.hid rfl) (Lib.hid rfl) v0 v1 huv
      · have hde : long y m = d := by omega
        by_cases hm : m < 12
        · have hr2 : right y (m + 1) 1 = true := (right_iff _ _ _).2 ⟨hr'.1, hr'.2.1, by omega, by have := long_pos y (m + 1) (by omega) (by omega); omega⟩
          have e := ofI_num y (m + 1) 1 hr2
          rw [num_month y m m0 m1, hde, hnum] at e
          rcases key with ⟨Y, M, D, h, mi, se, k1, k2⟩ | k
          · exact next_yes_month n s Y M D h mi se y m d _ _ w k1 k2 n0 n1 he hr hnum e hde hr'.1 hr'.2.1 m0 m1 hr'.2.2.1 (by omega) (Lib.hid rfl) (Lib.hid rfl) v0 v1 huv
          · exact next_no_month n s y m d _ _ w k n0 n1 he hr hnum e hde hr'.1 hr'.2.1 m0 m1 hr'.2.2.1 (by omega) (Lib.hid rfl) (Lib.hid rfl) v0 v1 huv
        · obtain rfl : m = 12 := by omega
          rw [long_dec] at hde
          subst hde
          by_cases hy : y < 9999
          · have hr2 : right (y + 1) 1 1 = true := (right_iff _ _ _).2 ⟨by omega, by omega, by omega, by have := long_pos (y + 1) 1 (by omega) (by omega); omega⟩
            have e := ofI_num (y + 1) 1 1 hr2
            rw [num_year y, hnum] at e
            rcases key with ⟨Y, M, D, h, mi, se, k1, k2⟩ | k
            · exact next_yes_year n s Y M D h mi se y _ _ w k1 k2 n0 n1 he hr hnum e hr'.1 hr'.2.1 (Lib.hid rfl) (Lib.hid rfl) v0 v1 huv
            · exact next_no_year n s y _ _ w k n0 n1 he hr hnum e hr'.1 hr'.2.1 (Lib.hid rfl) (Lib.hid rfl) v0 v1 huv
          · obtain rfl : y = 9999 := by omega
            have e : num 9999 12 31 = 2932896 := by decide
            omega
    · obtain ⟨rfl, rfl, rfl⟩ := num_last y m d hr'.1 hr'.2.1 m0 m1 hr'.2.2.1 hr'.2.2.2 (by omega)
      have e := ofI_no (n + 1) (by omega)
      rcases key with ⟨Y, M, D, h, mi, se, k1, k2⟩ | k
      · exact next_yes_last n s Y M D h mi se w k1 k2 n0 n1 he hr hnum e
      · exact next_no_last n s w k n0 n1 he hr hnum e
  · have e := ofI_no n (by omega)
    rcases key with ⟨Y, M, D, h, mi, se, k1, k2⟩ | k
    · exact next_yes_off n s Y M D h mi se w k1 k2 e
    · exact next_no_off n s w k e
end Go.Proofs.Ythjndgioalehcaa.Q
